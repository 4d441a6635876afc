/-
  Division of numbers; DivMod. Value; Gcd. Gcd. Text. Parse.
-/
import Derived.Test.YtchhlgcakjjncaaDoorNby
import Derived.Test.YtchhlgcakjjncaaDoorMB
import Derived.OwnWalk
import Derived.Laws.EntriesVeiled
import Derived.Test.YtchhlgcakjjncaaDoorMC
set_option linter.unusedSimpArgs false
set_option linter.unusedVariables false
set_option maxRecDepth 100000
set_option maxHeartbeats 1600000
namespace Go.Proofs.YtchhlgcakjjncaaDoor
open Go.RowKit

/-- A quotient and a remainder. -/
def Pr (x y : Nat) (q : Value) (X : World) : Prop := ∃ u v, q = .tuple #[u, v] ∧ Lm x u X ∧ Lm y v X
theorem Pr.lasts (x y : Nat) : Lasts (Pr x y) := by
  rintro q X Y ⟨u, v, h1, h2, h3⟩ hS
  exact ⟨u, v, h1, h2.bel hS, h3.bel hS⟩
theorem byP (v v' : Value) (x0 y0 : Nat) (w : World) (hr : Lm x0 v w) (hr' : Lm y0 v' w) (hx : (ld x0).length ≤ 8388608) (hy : (ld y0).length ≤ 8388608) (hy0 : 0 < y0) :
    Calls Tryd.prog 98 #[v, v'] w fun e w' => ∃ q, e = .returned q ∧ Pr (x0 / y0) (x0 % y0) q w' ∧ Since w w' := by
  rcases Nat.lt_or_ge x0 y0 with h | h
  · exact (byLt v v' x0 y0 w hr hr' hx hy h).mono fun e X' ⟨q, r, h1, h2, h3, h4⟩ => ⟨_, h1, ⟨q, r, rfl, h2, h3⟩, h4⟩
  · rcases Nat.lt_or_ge (ld y0).length 2 with h1 | h1
    · have h0 : 0 < (ld y0).length := List.length_pos_iff.2 (fun h => by rw [ld_nil] at h; omega)
      exact (byOne v v' x0 y0 w hr hr' hx hy h hy0 (by omega)).mono fun e X' ⟨q, r, h1, h2, h3, h4⟩ => ⟨_, h1, ⟨q, r, rfl, h2, h3⟩, h4⟩
    · exact (byBig v v' x0 y0 w hr hr' hx hy h hy0 h1).mono fun e X' ⟨q, r, h1, h2, h3, h4⟩ => ⟨_, h1, ⟨q, r, rfl, h2, h3⟩, h4⟩
theorem ld_pos {x : Nat} (h : 0 < x) : 0 < (ld x).length := List.length_pos_iff.2 (fun h' => by rw [ld_nil] at h'; omega)
theorem ld_none {x : Nat} (h : x = 0) : (ld x).length ≤ 0 := by subst h; exact Nat.le_refl 0

theorem ndivE (a b : List UInt8) (w : World) (ha : a.length ≤ 4194304) (hb0 : b.length ≤ 4194304) (h0 : val b = 0) :
    Calls Tryd.prog 67 #[.string ⟨a.toArray⟩, .string ⟨b.toArray⟩] w fun e w' => e = .returned (.tuple #[.string ⟨#[]⟩, .string ⟨#[]⟩, .int .i64 1]) ∧ Below w.heap.size w w' := by
  have la := ld_val a
  have lb := ld_val b
  have l0 := ld_none h0
  clear h0
  go_enter Tryd.func67, Tryd.ntmps67
  go_upto_region 1 with (fail)
  refine lx_plain [none, some (Lm (val a)), none, some (Lm (val b))] (lasts_none (lasts_some (Dg.lasts _) (lasts_none (lasts_some (Dg.lasts _) (lasts_nil))))) ?_
  simp only [iX, Nat.reduceAdd]
  refine jm (st a) ?_
  refine jk (fun X hX hF => loadC a X (by omega)) ?_
  intro v12
  refine jm (st b) ?_
  refine jk (fun X hX hF => loadC b X (by omega)) ?_
  intro v14
  refine jm (v12) ?_
  refine jm (v14) ?_
  refine lx_nil ?_
  intro X1 hX1 hF
  have hv12 := hF _ _ (List.mem_cons_of_mem _ List.mem_cons_self)
  have hv14 := hF _ _ List.mem_cons_self
  have hb : Below w.heap.size w X1 := hX1
  clear hF hX1
  go_upto_region 2 with (fail)
  refine jp ?_
  refine jm (v14) ?_
  refine jg (.int .i64 ((ld (val b)).length : Int)) (fun X hX hF => by obtain ⟨A9, c9, h9, _⟩ := ((Dg.lasts _) _ _ _ hv14 hX); subst h9; exact exec_lenv Tryd.underlying108 _ (by rfl) A9 _ c9 (by rfl) _ rfl X) ?_
  refine jv (.bool true) (exec_eqi _ _ _ _ (by rfl) .i64 ((ld (val b)).length : Int) 0 (by rfl) (by rfl) true (decide_eq_true (by omega))) ?_
  refine jz fun X2 hX2 => ?_
  have hv12 := (Dg.lasts _) _ _ _ hv12 hX2
  have hv14 := (Dg.lasts _) _ _ _ hv14 hX2
  have hb := bel_next hb hX2
  clear hX2
  go_wp2
  go_ret3
  exact ⟨rfl, hb⟩

theorem ndivC (a b : List UInt8) (w : World) (ha : a.length ≤ 4194304) (hb0 : b.length ≤ 4194304) (h0 : 0 < val b) :
    Calls Tryd.prog 67 #[.string ⟨a.toArray⟩, .string ⟨b.toArray⟩] w fun e w' => e = .returned (.tuple #[.string ⟨(be (val a / val b)).toArray⟩, .string ⟨(be (val a % val b)).toArray⟩, .int .i64 0]) ∧ Below w.heap.size w w' := by
  have la := ld_val a
  have lb := ld_val b
  have l0 := ld_pos h0
  have l1 := ld_le (Nat.div_le_self (val a) (val b))
  have l2 := ld_le (Nat.mod_le (val a) (val b))
  go_enter Tryd.func67, Tryd.ntmps67
  go_upto_region 1 with (fail)
  refine lx_plain [none, some (Lm (val a)), none, some (Lm (val b))] (lasts_none (lasts_some (Dg.lasts _) (lasts_none (lasts_some (Dg.lasts _) (lasts_nil))))) ?_
  simp only [iX, Nat.reduceAdd]
  refine jm (st a) ?_
  refine jk (fun X hX hF => loadC a X (by omega)) ?_
  intro v12
  refine jm (st b) ?_
  refine jk (fun X hX hF => loadC b X (by omega)) ?_
  intro v14
  refine jm (v12) ?_
  refine jm (v14) ?_
  refine lx_nil ?_
  intro X1 hX1 hF
  have hv12 := hF _ _ (List.mem_cons_of_mem _ List.mem_cons_self)
  have hv14 := hF _ _ List.mem_cons_self
  have hb : Below w.heap.size w X1 := hX1
  clear hF hX1
  go_upto_region 2 with (fail)
  refine jp ?_
  refine jm (v14) ?_
  refine jg (.int .i64 ((ld (val b)).length : Int)) (fun X hX hF => by obtain ⟨A9, c9, h9, _⟩ := ((Dg.lasts _) _ _ _ hv14 hX); subst h9; exact exec_lenv Tryd.underlying108 _ (by rfl) A9 _ c9 (by rfl) _ rfl X) ?_
  refine jv (.bool false) (exec_eqi _ _ _ _ (by rfl) .i64 ((ld (val b)).length : Int) 0 (by rfl) (by rfl) false (decide_eq_false (by omega))) ?_
  refine jz fun X2 hX2 => ?_
  have hv12 := (Dg.lasts _) _ _ _ hv12 hX2
  have hv14 := (Dg.lasts _) _ _ _ hv14 hX2
  have hb := bel_next hb hX2
  clear hX2
  go_upto_region 4 with (fail)
  refine lx_plain_to 3 [none, none, some (Pr ((val a) / (val b)) ((val a) % (val b)))] (lasts_none (lasts_none (lasts_some (Pr.lasts _ _) (lasts_nil)))) ?_
  simp only [its, List.take, List.drop, Nat.zero_add, Nat.reduceAdd]
  refine jm (v12) ?_
  refine jm (v14) ?_
  refine jk (fun X hX hF => byP v12 v14 _ _ X ((Dg.lasts _) _ _ _ hv12 hX) ((Dg.lasts _) _ _ _ hv14 hX) (by omega) (by omega) (by omega)) ?_
  intro v21
  refine lx_nil ?_
  intro X3 hX3 hF
  have hv12 := (Dg.lasts _) _ _ _ hv12 hX3
  have hv14 := (Dg.lasts _) _ _ _ hv14 hX3
  have hv21 := hF _ _ List.mem_cons_self
  have hb := bel_next hb hX3
  clear hF hX3
  obtain ⟨q0, r0, rfl, hq, hr⟩ := hv21
  go_upto_region 5 with (fail)
  refine jp ?_
  refine jm (q0) ?_
  refine jc (st (be (val a / val b))) (fun X hX hF => textL q0 _ X ((Dg.lasts _) _ _ _ hq hX) (by omega)) ?_
  refine jm (r0) ?_
  refine jc (st (be (val a % val b))) (fun X hX hF => textL r0 _ X ((Dg.lasts _) _ _ _ hr hX) (by omega)) ?_
  refine jm (st (be (val a / val b))) ?_
  refine jm (st (be (val a % val b))) ?_
  refine jm (.int .i64 0) ?_
  refine jz fun X4 hX4 => ?_
  have hv12 := (Dg.lasts _) _ _ _ hv12 hX4
  have hv14 := (Dg.lasts _) _ _ _ hv14 hX4
  have hq := (Dg.lasts _) _ _ _ hq hX4
  have hr := (Dg.lasts _) _ _ _ hr hX4
  have hb := bel_next hb hX4
  clear hX4
  go_wp2
  go_ret3
  exact ⟨rfl, hb⟩

theorem nintE (n : Int) (w : World) (hn : n < 0) : Calls Tryd.prog 99 #[.int .i64 n] w fun e w' => e = .returned (.tuple #[.string ⟨#[]⟩, .int .i64 3]) ∧ Below w.heap.size w w' := by
  go_enter Tryd.func99, Tryd.ntmps99
  go_wp2
  go_ret2
  exact ⟨rfl, Below.refl _ _⟩

theorem nintC (n : Nat) (w : World) (hn : n < 9223372036854775808) : Calls Tryd.prog 99 #[.int .i64 (n : Int)] w fun e w' => e = .returned (.tuple #[.string ⟨(be n).toArray⟩, .int .i64 0]) ∧ Below w.heap.size w w' := by
  have hlw : lw [UInt32.ofNat (n % 4294967296), UInt32.ofNat (n / 4294967296)] = n := by
    rw [lw_cons, lw_one, u32n, u32n]
    omega
  have hl2 : (ld (lw [UInt32.ofNat (n % 4294967296), UInt32.ofNat (n / 4294967296)])).length ≤ 2 := by
    rw [hlw]
    exact ld_len (by omega)
  have HLW := Lib.hid hlw
  clear hlw
  go_enter Tryd.func99, Tryd.ntmps99
  go_upto_region 3 with (fail)
  refine lx_plain [none, none, none, none, none, some (Dg [UInt32.ofNat (n % 4294967296), UInt32.ofNat (n / 4294967296)]), some (Lm (lw [UInt32.ofNat (n % 4294967296), UInt32.ofNat (n / 4294967296)]))] (lasts_none (lasts_none (lasts_none (lasts_none (lasts_none (lasts_some (Dg.lasts _) (lasts_some (Dg.lasts _) (lasts_nil)))))))) ?_
  simp only [iX, Nat.reduceAdd]
  refine jm (.int .i64 (n : Int)) ?_
  refine jv (.int .u32 ((n % 4294967296 : Nat) : Int)) (exec_cnv _ _ .i64 .u32 Tryd.underlying3 Tryd.underlying110 _ (by rfl) (n : Int) ((n % 4294967296 : Nat) : Int) (by rfl) (by rw [IntKind.wrap_u32]; omega)) ?_
  refine jm (.int .i64 (n : Int)) ?_
  refine jv (.int .i64 ((n / 4294967296 : Nat) : Int)) (exec_shr _ _ _ _ (by rfl) .i64 .u64 (n : Int) ((n / 4294967296 : Nat) : Int) 32 (by rfl) (by rfl) rfl (by decide) (by omega)) ?_
  refine jv (.int .u32 ((n / 4294967296 : Nat) : Int)) (exec_cnv _ _ .i64 .u32 Tryd.underlying3 Tryd.underlying110 _ (by rfl) ((n / 4294967296 : Nat) : Int) ((n / 4294967296 : Nat) : Int) (by rfl) (by rw [w32 (by omega) (by omega)])) ?_
  refine lx_new (by rfl) (fun X hX hF => ⟨_, _, exec_bs2 _ _ (by rfl) _ _ (by rfl) (by rfl) X, Dg.new2 X _ _ (UInt32.ofNat (n % 4294967296)) (UInt32.ofNat (n / 4294967296)) (by rw [u32n]; omega) (by rw [u32n]; omega), since_alloc X _⟩) ?_
  intro v11
  simp only [pX]
  refine jk (fun X hX hF => trimD _ v11 X (hF _ _ List.mem_cons_self rfl) (by first | omega | (simp only [List.length_cons, List.length_nil]; omega))) ?_
  intro v12
  refine jc (st (be (lw [UInt32.ofNat (n % 4294967296), UInt32.ofNat (n / 4294967296)]))) (fun X hX hF => textL v12 _ X (hF _ _ List.mem_cons_self rfl) (by omega)) ?_
  refine jm (st (be (lw [UInt32.ofNat (n % 4294967296), UInt32.ofNat (n / 4294967296)]))) ?_
  refine jm (.int .i64 0) ?_
  refine lx_nil ?_
  intro X1 hX1 hF
  have hv11 := hF _ _ (List.mem_cons_of_mem _ List.mem_cons_self)
  have hv12 := hF _ _ List.mem_cons_self
  have hb : Below w.heap.size w X1 := hX1
  clear hF hX1
  rw [HLW.out]
  go_wp2
  go_ret2
  exact ⟨rfl, hb⟩

end Go.Proofs.YtchhlgcakjjncaaDoor
namespace Go.Proofs.YtchhlgcakjjncaaDoor
open Go.RowKit

theorem atN (v : Value) (x0 k : Nat) (w : World) (hr : Lm x0 v w) :
    Calls Tryd.prog 100 #[v, .int .i64 (k : Int)] w fun e w' => e = .returned (.int .u64 (((ld x0).getD k 0).toNat : Int)) ∧ Since w w' := by
  obtain ⟨A, c, rfl, h⟩ := hr
  exact (atC A _ c _ k w h).mono fun e w' ⟨h1, h2⟩ => ⟨h1, since_eq h2⟩
theorem ld2 {x : Nat} (h : (ld x).length ≤ 2) : x = ((ld x).getD 0 0).toNat + 4294967296 * ((ld x).getD 1 0).toNat := by
  have h1 := lw_ld x
  generalize ld x = l at h h1 ⊢
  match l, h with
  | [], _ => rw [← h1]; rfl
  | [a], _ => rw [← h1, lw_one]; simp
  | [a, b], _ => rw [← h1, lw_cons, lw_one]; rfl
  | a :: b :: c :: r, h => simp only [List.length_cons] at h; omega
theorem nvalL (a : List UInt8) (w : World) (ha : a.length ≤ 4194304) (hv : 18446744073709551616 ≤ val a) : Calls Tryd.prog 69 #[.string ⟨a.toArray⟩] w fun e w' => e = .returned (.tuple #[.int .i64 0, .int .i64 3]) ∧ Below w.heap.size w w' := by
  have la := ld_val a
  have hl : 2 < (ld (val a)).length := le_ld_len (Nat.le_trans (by decide) hv)
  clear hv
  go_enter Tryd.func69, Tryd.ntmps69
  go_upto_region 1 with (fail)
  refine lx_plain [none, some (Lm (val a))] (lasts_none (lasts_some (Dg.lasts _) (lasts_nil))) ?_
  simp only [iX, Nat.reduceAdd]
  refine jm (st a) ?_
  refine jk (fun X hX hF => loadC a X (by omega)) ?_
  intro v6
  refine jm (v6) ?_
  refine lx_nil ?_
  intro X1 hX1 hF
  have hv6 := hF _ _ List.mem_cons_self
  have hb : Below w.heap.size w X1 := hX1
  clear hF hX1
  go_upto_region 2 with (fail)
  refine jp ?_
  refine jm (v6) ?_
  refine jg (.int .i64 ((ld (val a)).length : Int)) (fun X hX hF => by obtain ⟨A9, c9, h9, _⟩ := ((Dg.lasts _) _ _ _ hv6 hX); subst h9; exact exec_lenv Tryd.underlying108 _ (by rfl) A9 _ c9 (by rfl) _ rfl X) ?_
  refine jv (.bool true) (exec_gtr _ _ _ _ (by rfl) .i64 ((ld (val a)).length : Int) 2 (by rfl) (by rfl) true (decide_eq_true (by omega))) ?_
  refine jm (.bool true) ?_
  refine js ?_
  refine js ?_
  refine js ?_
  refine js ?_
  refine jm (.bool true) ?_
  refine jz fun X2 hX2 => ?_
  have hv6 := (Dg.lasts _) _ _ _ hv6 hX2
  have hb := bel_next hb hX2
  clear hX2
  go_wp2
  go_ret2
  exact ⟨rfl, hb⟩

theorem nvalB (a : List UInt8) (w : World) (ha : a.length ≤ 4194304) (hv : val a < 18446744073709551616) (hge : 9223372036854775808 ≤ val a) : Calls Tryd.prog 69 #[.string ⟨a.toArray⟩] w fun e w' => e = .returned (.tuple #[.int .i64 0, .int .i64 3]) ∧ Below w.heap.size w w' := by
  have la := ld_val a
  obtain ⟨p0, hp0⟩ : ∃ p0, p0 = ((ld (val a)).getD 0 0).toNat := ⟨_, rfl⟩
  obtain ⟨p1, hp1⟩ : ∃ p1, p1 = ((ld (val a)).getD 1 0).toNat := ⟨_, rfl⟩
  have b0 : p0 < 4294967296 := hp0 ▸ u32_lt _
  have b1 : p1 < 4294967296 := hp1 ▸ u32_lt _
  have h2 : (ld (val a)).length ≤ 2 := ld_len (Nat.lt_of_lt_of_le hv (by decide))
  have hv2 := ld2 h2
  rw [← hp0, ← hp1] at hv2
  have HP0 := Lib.hid hp0
  have HP1 := Lib.hid hp1
  have hp31 : 2147483648 ≤ p1 := by omega
  clear hp0 hp1 hv2 hv hge
  go_enter Tryd.func69, Tryd.ntmps69
  go_upto_region 1 with (fail)
  refine lx_plain [none, some (Lm (val a))] (lasts_none (lasts_some (Dg.lasts _) (lasts_nil))) ?_
  simp only [iX, Nat.reduceAdd]
  refine jm (st a) ?_
  refine jk (fun X hX hF => loadC a X (by omega)) ?_
  intro v6
  refine jm (v6) ?_
  refine lx_nil ?_
  intro X1 hX1 hF
  have hv6 := hF _ _ List.mem_cons_self
  have hb : Below w.heap.size w X1 := hX1
  clear hF hX1
  go_upto_region 2 with (fail)
  refine jp ?_
  refine jm (v6) ?_
  refine jg (.int .i64 ((ld (val a)).length : Int)) (fun X hX hF => by obtain ⟨A9, c9, h9, _⟩ := ((Dg.lasts _) _ _ _ hv6 hX); subst h9; exact exec_lenv Tryd.underlying108 _ (by rfl) A9 _ c9 (by rfl) _ rfl X) ?_
  refine jv (.bool false) (exec_gtr _ _ _ _ (by rfl) .i64 ((ld (val a)).length : Int) 2 (by rfl) (by rfl) false (decide_eq_false (by omega))) ?_
  refine jm (.bool false) ?_
  refine jm (v6) ?_
  refine jc (.int .u64 (p1 : Int)) (fun X hX hF => mo (atN v6 _ 1 X ((Dg.lasts _) _ _ _ hv6 hX)) (by rw [← HP1.out])) ?_
  refine jv (.int .u64 ((p1 / 2147483648 : Nat) : Int)) (exec_shr _ _ _ _ (by rfl) .u64 .u64 (p1 : Int) ((p1 / 2147483648 : Nat) : Int) 31 (by rfl) (by rfl) rfl (by decide) (by omega)) ?_
  refine jv (.bool true) (exec_gtr _ _ _ _ (by rfl) .u64 ((p1 / 2147483648 : Nat) : Int) 0 (by rfl) (by rfl) true (decide_eq_true (by omega))) ?_
  refine jm (.bool true) ?_
  refine jz fun X2 hX2 => ?_
  have hv6 := (Dg.lasts _) _ _ _ hv6 hX2
  have hb := bel_next hb hX2
  clear hX2
  go_wp2
  go_ret2
  exact ⟨rfl, hb⟩

theorem nvalC (a : List UInt8) (w : World) (ha : a.length ≤ 4194304) (hlt : val a < 9223372036854775808) : Calls Tryd.prog 69 #[.string ⟨a.toArray⟩] w fun e w' => e = .returned (.tuple #[.int .i64 (val a : Int), .int .i64 0]) ∧ Below w.heap.size w w' := by
  have la := ld_val a
  have hv : val a < 18446744073709551616 := by omega
  obtain ⟨p0, hp0⟩ : ∃ p0, p0 = ((ld (val a)).getD 0 0).toNat := ⟨_, rfl⟩
  obtain ⟨p1, hp1⟩ : ∃ p1, p1 = ((ld (val a)).getD 1 0).toNat := ⟨_, rfl⟩
  have b0 : p0 < 4294967296 := hp0 ▸ u32_lt _
  have b1 : p1 < 4294967296 := hp1 ▸ u32_lt _
  have h2 : (ld (val a)).length ≤ 2 := ld_len (Nat.lt_of_lt_of_le hv (by decide))
  have hv2 := ld2 h2
  rw [← hp0, ← hp1] at hv2
  have HP0 := Lib.hid hp0
  have HP1 := Lib.hid hp1
  have hp31 : p1 < 2147483648 := by omega
  have hvv : p1 * 2 ^ 32 + p0 = val a := by omega
  have HV : Hid (p1 * 2 ^ 32 + p0 = val a) := hvv
  clear hp0 hp1 hv2 hv hlt hvv
  go_enter Tryd.func69, Tryd.ntmps69
  go_upto_region 1 with (fail)
  refine lx_plain [none, some (Lm (val a))] (lasts_none (lasts_some (Dg.lasts _) (lasts_nil))) ?_
  simp only [iX, Nat.reduceAdd]
  refine jm (st a) ?_
  refine jk (fun X hX hF => loadC a X (by omega)) ?_
  intro v6
  refine jm (v6) ?_
  refine lx_nil ?_
  intro X1 hX1 hF
  have hv6 := hF _ _ List.mem_cons_self
  have hb : Below w.heap.size w X1 := hX1
  clear hF hX1
  go_upto_region 2 with (fail)
  refine jp ?_
  refine jm (v6) ?_
  refine jg (.int .i64 ((ld (val a)).length : Int)) (fun X hX hF => by obtain ⟨A9, c9, h9, _⟩ := ((Dg.lasts _) _ _ _ hv6 hX); subst h9; exact exec_lenv Tryd.underlying108 _ (by rfl) A9 _ c9 (by rfl) _ rfl X) ?_
  refine jv (.bool false) (exec_gtr _ _ _ _ (by rfl) .i64 ((ld (val a)).length : Int) 2 (by rfl) (by rfl) false (decide_eq_false (by omega))) ?_
  refine jm (.bool false) ?_
  refine jm (v6) ?_
  refine jc (.int .u64 (p1 : Int)) (fun X hX hF => mo (atN v6 _ 1 X ((Dg.lasts _) _ _ _ hv6 hX)) (by rw [← HP1.out])) ?_
  refine jv (.int .u64 ((p1 / 2147483648 : Nat) : Int)) (exec_shr _ _ _ _ (by rfl) .u64 .u64 (p1 : Int) ((p1 / 2147483648 : Nat) : Int) 31 (by rfl) (by rfl) rfl (by decide) (by omega)) ?_
  refine jv (.bool false) (exec_gtr _ _ _ _ (by rfl) .u64 ((p1 / 2147483648 : Nat) : Int) 0 (by rfl) (by rfl) false (decide_eq_false (by omega))) ?_
  refine jm (.bool false) ?_
  refine jz fun X2 hX2 => ?_
  have hv6 := (Dg.lasts _) _ _ _ hv6 hX2
  have hb := bel_next hb hX2
  clear hX2
  go_upto_region 4 with (fail)
  refine jp ?_
  refine jm (v6) ?_
  refine jc (.int .u64 (p1 : Int)) (fun X hX hF => mo (atN v6 _ 1 X ((Dg.lasts _) _ _ _ hv6 hX)) (by rw [← HP1.out])) ?_
  refine jv (.int .u64 ((p1 * 2 ^ 32 : Nat) : Int)) (exec_shl _ _ _ _ (by rfl) .u64 .u64 (p1 : Int) ((p1 * 2 ^ 32 : Nat) : Int) 32 (by rfl) (by rfl) rfl (by decide) (by rw [w64 (by omega) (by omega)]; omega)) ?_
  refine jm (v6) ?_
  refine jc (.int .u64 (p0 : Int)) (fun X hX hF => mo (atN v6 _ 0 X ((Dg.lasts _) _ _ _ hv6 hX)) (by rw [← HP0.out])) ?_
  refine jv (.int .u64 ((p1 * 2 ^ 32 + p0 : Nat) : Int)) (exec_or _ _ _ _ (by rfl) .u64 ((p1 * 2 ^ 32 : Nat) : Int) (p0 : Int) ((p1 * 2 ^ 32 + p0 : Nat) : Int) (by rfl) (by rfl) (or64 p1 p0 32 (by omega) (by omega))) ?_
  refine jv (.int .i64 ((p1 * 2 ^ 32 + p0 : Nat) : Int)) (exec_cnv _ _ .u64 .i64 Tryd.underlying129 Tryd.underlying3 _ (by rfl) ((p1 * 2 ^ 32 + p0 : Nat) : Int) ((p1 * 2 ^ 32 + p0 : Nat) : Int) (by rfl) (by rw [IntWalk.i64_in _ (by omega)])) ?_
  refine jm (.int .i64 ((p1 * 2 ^ 32 + p0 : Nat) : Int)) ?_
  refine jm (.int .i64 0) ?_
  refine jz fun X3 hX3 => ?_
  have hv6 := (Dg.lasts _) _ _ _ hv6 hX3
  have hb := bel_next hb hX3
  clear hX3
  rw [HV.out]
  go_wp2
  go_ret2
  exact ⟨rfl, hb⟩

theorem nvalE (a : List UInt8) (w : World) (ha : a.length ≤ 4194304) (hv : 9223372036854775808 ≤ val a) : Calls Tryd.prog 69 #[.string ⟨a.toArray⟩] w fun e w' => e = .returned (.tuple #[.int .i64 0, .int .i64 3]) ∧ Below w.heap.size w w' := by
  rcases Nat.lt_or_ge (val a) 18446744073709551616 with h | h
  · exact nvalB a w ha h hv
  · exact nvalL a w ha h

theorem load_f (b k : Nat) (X : World) (v : Value) (h : X.cell? ⟨b, k, none⟩ = some v) : (loadVar 125 ⟨b, k, none⟩).run Tryd.prog X = .ok v X := by
  go_simp
theorem euclidC (g : Nat) (y0 : Nat) : ∀ (v v' : Value) (x0 : Nat) (w : World), Lm x0 v w → Lm y0 v' w → (ld x0).length ≤ 8388608 → (ld y0).length ≤ 8388608 → g < w.heap.size → w.cell? ⟨g, 0, none⟩ = some (.func (.func 97) #[] #[.pointer (some ⟨g, 0, none⟩)]) →
    Calls Tryd.prog 97 #[v, v', .pointer (some ⟨g, 0, none⟩)] w fun e w' => ∃ u, e = .returned u ∧ Lm (Nat.gcd x0 y0) u w' ∧ Since w w' := by
  induction y0 using Nat.strongRecOn with
  | _ y0 ih =>
  intro v v' x0 w hr hr' hx hy hg hc
  have ih := Lib.hid ih
  rcases Nat.eq_zero_or_pos y0 with h0 | h0
  · have l0 := ld_none h0
    have HG : Hid (Nat.gcd x0 y0 = x0) := by show _ = _; rw [h0, Nat.gcd_zero_right]
    clear h0 hc ih
    rw [HG.out]
    go_enter Tryd.func97, Tryd.ntmps97
    go_upto_region 1 with (fail)
    refine jp ?_
    refine jm (v') ?_
    refine jg (.int .i64 ((ld y0).length : Int)) (fun X hX hF => by obtain ⟨A9, c9, h9, _⟩ := ((Dg.lasts _) _ _ _ hr' hX); subst h9; exact exec_lenv Tryd.underlying108 _ (by rfl) A9 _ c9 (by rfl) _ rfl X) ?_
    refine jv (.bool true) (exec_eqi _ _ _ _ (by rfl) .i64 ((ld y0).length : Int) 0 (by rfl) (by rfl) true (decide_eq_true (by omega))) ?_
    refine jz fun X1 hX1 => ?_
    have hr := (Dg.lasts _) _ _ _ hr hX1
    have hr' := (Dg.lasts _) _ _ _ hr' hX1
    have hb : Below w.heap.size w X1 := hX1
    clear hX1
    go_upto_region 2 with (fail)
    refine jp ?_
    refine jm (v) ?_
    refine jm (v) ?_
    refine jz fun X2 hX2 => ?_
    have hr := (Dg.lasts _) _ _ _ hr hX2
    have hr' := (Dg.lasts _) _ _ _ hr' hX2
    have hb := bel_next hb hX2
    clear hX2
    go_wp2
    go_ret
    exact ⟨_, rfl, hr, hb⟩
  · have l0 := ld_pos h0
    have hm := Nat.mod_lt x0 h0
    have l2 := ld_le (Nat.le_of_lt hm)
    have HG : Hid (Nat.gcd x0 y0 = Nat.gcd y0 (x0 % y0)) := by
      show _ = _
      rw [Nat.gcd_comm, Nat.gcd_rec, Nat.gcd_comm]
    have hc := hc
    rw [HG.out]
    have ih := ih.out
    go_enter Tryd.func97, Tryd.ntmps97
    go_upto_region 1 with (fail)
    refine jp ?_
    refine jm (v') ?_
    refine jg (.int .i64 ((ld y0).length : Int)) (fun X hX hF => by obtain ⟨A9, c9, h9, _⟩ := ((Dg.lasts _) _ _ _ hr' hX); subst h9; exact exec_lenv Tryd.underlying108 _ (by rfl) A9 _ c9 (by rfl) _ rfl X) ?_
    refine jv (.bool false) (exec_eqi _ _ _ _ (by rfl) .i64 ((ld y0).length : Int) 0 (by rfl) (by rfl) false (decide_eq_false (by omega))) ?_
    refine jz fun X1 hX1 => ?_
    have hr := (Dg.lasts _) _ _ _ hr hX1
    have hr' := (Dg.lasts _) _ _ _ hr' hX1
    have hc := (Below.cell hX1 (p := ⟨g, 0, none⟩) hg).trans hc
    have hg := Nat.lt_of_lt_of_le hg (hX1).size
    have hb : Below w.heap.size w X1 := hX1
    clear hX1
    go_upto_region 3 with (fail)
    refine lx_plain_to 3 [none, none, some (Pr (x0 / y0) (x0 % y0))] (lasts_none (lasts_none (lasts_some (Pr.lasts _ _) (lasts_nil)))) ?_
    simp only [its, List.take, List.drop, Nat.zero_add, Nat.reduceAdd]
    refine jm (v) ?_
    refine jm (v') ?_
    refine jk (fun X hX hF => byP v v' _ _ X ((Dg.lasts _) _ _ _ hr hX) ((Dg.lasts _) _ _ _ hr' hX) (by omega) (by omega) (by omega)) ?_
    intro v15
    refine lx_nil ?_
    intro X2 hX2 hF
    have hr := (Dg.lasts _) _ _ _ hr hX2
    have hr' := (Dg.lasts _) _ _ _ hr' hX2
    have hv15 := hF _ _ List.mem_cons_self
    have hc := (Below.cell hX2 (p := ⟨g, 0, none⟩) hg).trans hc
    have hg := Nat.lt_of_lt_of_le hg (hX2).size
    have hb := bel_next hb hX2
    clear hF hX2
    obtain ⟨q0, r0, rfl, hq, hr0⟩ := hv15
    go_upto_region 4 with (fail)
    refine lx_plain [none, none, none, some (Lm (Nat.gcd y0 (x0 % y0)))] (lasts_none (lasts_none (lasts_none (lasts_some (Dg.lasts _) (lasts_nil))))) ?_
    simp only [iX, Nat.reduceAdd]
    refine jg ((.func (.func 97) #[] #[.pointer (some ⟨g, 0, none⟩)])) (fun X hX hF => exec_ld 125 _ (by rfl) g 0 (by rfl) _ X ((Below.cell hX (p := ⟨g, 0, none⟩) hg).trans hc) (fun X u h => load_f g 0 X u h)) ?_
    refine jm (v') ?_
    refine jm (r0) ?_
    refine lx_makef (by rfl) _ _ _ (by rfl) 97 [.pointer (some ⟨g, 0, none⟩)] (by rfl) [v', r0] (by rfl) (fun _ => by go_simp) (fun X hX hF => ih (x0 % y0) hm v' r0 y0 X ((Dg.lasts _) _ _ _ hr' hX) ((Dg.lasts _) _ _ _ hr0 hX) (by omega) (by omega) (Nat.lt_of_lt_of_le hg hX.size) ((Below.cell hX (p := ⟨g, 0, none⟩) hg).trans hc)) ?_
    intro v21
    simp only [pX]
    refine jm (v21) ?_
    refine lx_nil ?_
    intro X3 hX3 hF
    have hr := (Dg.lasts _) _ _ _ hr hX3
    have hr' := (Dg.lasts _) _ _ _ hr' hX3
    have hr0 := (Dg.lasts _) _ _ _ hr0 hX3
    have hv21 := hF _ _ List.mem_cons_self
    have hc := (Below.cell hX3 (p := ⟨g, 0, none⟩) hg).trans hc
    have hg := Nat.lt_of_lt_of_le hg (hX3).size
    have hb := bel_next hb hX3
    clear hF hX3
    go_wp2
    go_ret
    exact ⟨_, rfl, hv21, hb⟩

end Go.Proofs.YtchhlgcakjjncaaDoor
namespace Go.Proofs.YtchhlgcakjjncaaDoor
open Go.RowKit

theorem ngcdC (a b : List UInt8) (w : World) (ha : a.length ≤ 4194304) (hb0 : b.length ≤ 4194304) :
    Calls Tryd.prog 60 #[.string ⟨a.toArray⟩, .string ⟨b.toArray⟩] w fun e w' => e = .returned (.string ⟨(be (Nat.gcd (val a) (val b))).toArray⟩) ∧ Below w.heap.size w w' := by
  have la := ld_val a
  have lb := ld_val b
  have lg : (ld (Nat.gcd (val a) (val b))).length ≤ 4194304 := by
    rcases Nat.eq_zero_or_pos (val b) with h | h
    · rw [h, Nat.gcd_zero_right]; omega
    · exact Nat.le_trans (ld_le (Nat.gcd_le_right _ h)) (by omega)
  go_enter Tryd.func60, Tryd.ntmps60
  go_upto_region 3 with (fail)
  have hc : (w.alloc (.cells #[(.func (.func 97) #[] #[.pointer (some ⟨w.heap.size, 0, none⟩)])] 125)).cell? ⟨w.heap.size, 0, none⟩ = some (.func (.func 97) #[] #[.pointer (some ⟨w.heap.size, 0, none⟩)]) := (Blk.new (w := w) (t := 125) (xs := [(.func (.func 97) #[] #[.pointer (some ⟨w.heap.size, 0, none⟩)])]) rfl).cell (j := 0) (u := (.func (.func 97) #[] #[.pointer (some ⟨w.heap.size, 0, none⟩)])) rfl
  have hg : w.heap.size < (w.alloc (.cells #[(.func (.func 97) #[] #[.pointer (some ⟨w.heap.size, 0, none⟩)])] 125)).heap.size := by simp
  have b1 : Below w.heap.size w (w.alloc (.cells #[(.func (.func 97) #[] #[.pointer (some ⟨w.heap.size, 0, none⟩)])] 125)) := (Below.refl _ _).alloc (Nat.le_refl _) _
  generalize w.alloc (.cells #[(.func (.func 97) #[] #[.pointer (some ⟨w.heap.size, 0, none⟩)])] 125) = w1 at hc hg b1 ⊢
  refine lx_region [none, none, some (Lm (val a)), none, some (Lm (val b)), some (Lm (Nat.gcd (val a) (val b)))] (by kernel_rfl) (by kernel_rfl) (lasts_none (lasts_none (lasts_some (Dg.lasts _) (lasts_none (lasts_some (Dg.lasts _) (lasts_some (Dg.lasts _) (lasts_nil))))))) ?_
  simp only [iX, Nat.reduceAdd]
  refine jg ((.func (.func 97) #[] #[.pointer (some ⟨w.heap.size, 0, none⟩)])) (fun X hX hF => exec_ld 125 _ (by rfl) w.heap.size 0 (by rfl) _ X ((Below.cell hX (p := ⟨w.heap.size, 0, none⟩) hg).trans hc) (fun X u h => load_f w.heap.size 0 X u h)) ?_
  refine jm (st a) ?_
  refine jk (fun X hX hF => loadC a X (by omega)) ?_
  intro v9
  refine jm (st b) ?_
  refine jk (fun X hX hF => loadC b X (by omega)) ?_
  intro v11
  refine lx_makef (by rfl) _ _ _ (by rfl) 97 [.pointer (some ⟨w.heap.size, 0, none⟩)] (by rfl) [v9, v11] (by rfl) (fun _ => by go_simp) (fun X hX hF => euclidC w.heap.size _ v9 v11 _ X (hF _ _ (List.mem_cons_of_mem _ List.mem_cons_self) rfl) (hF _ _ List.mem_cons_self rfl) (by omega) (by omega) (Nat.lt_of_lt_of_le hg hX.size) ((Below.cell hX (p := ⟨w.heap.size, 0, none⟩) hg).trans hc)) ?_
  intro v12
  simp only [pX]
  refine jc (st (be (Nat.gcd (val a) (val b)))) (fun X hX hF => textL v12 _ X (hF _ _ List.mem_cons_self rfl) (by omega)) ?_
  refine jm (st (be (Nat.gcd (val a) (val b)))) ?_
  refine lx_nil ?_
  intro X1 hX1 hF
  have hv9 := hF _ _ (List.mem_cons_of_mem _ (List.mem_cons_of_mem _ List.mem_cons_self))
  have hv11 := hF _ _ (List.mem_cons_of_mem _ List.mem_cons_self)
  have hv12 := hF _ _ List.mem_cons_self
  have hb : Below w1.heap.size w1 X1 := hX1
  clear hF hX1
  go_wp2
  go_ret
  exact ⟨rfl, b1.trans (hb.mono b1.size)⟩

end Go.Proofs.YtchhlgcakjjncaaDoor
namespace Go.Proofs.YtchhlgcakjjncaaDoor
open Go.RowKit

/-- The same as app_new, with what grows. -/
theorem app_newG {P : Program} {w : World} {ops : Array Oper} {rest : List Oper} {o : Oper} {a : Act} {Q : Exit → Act → World → Prop} {cs : Array Value} {tb : TypeId} (hgd : o.guard = none) {s x : Operand} {t : TypeId}
    (ho : o.op = .call { callee := .builtin .append, args := #[s, x], argTypes := #[t, t] }) {e : TypeId} {z : Value} {bytes : Nat} (ht : P.underlying t = some (.slice e)) (hi : (P.info? e).map (fun i => (i.zero, i.size, i.bytes)) = some (some z, 1, bytes)) (hz1 : z.cells.size = 1)
    (base : Nat) (v : Value) (n : Nat) (xs us : List Value) (hcs : cs = us.toArray) (hs : a.eval s = v) (hown : w.ownsRow base e 1 v n xs) {m : Nat} (hm : us.length = m)
    (hx : a.eval x = .slice (some ⟨w.heap.size, 0, none⟩) m m) (h1 : ∀ u ∈ us, u.oneCell' = true) (hn : (n + m) * bytes ≤ 140737488355328) (hn2 : n + m ≤ 140737488355328) (hbase : base ≤ w.heap.size)
    (h : ∀ A' c' w', w'.ownsRow base e 1 (.slice A' (n + m) c') (n + m) (xs ++ us) → n + m ≤ c' → c' ≤ maxLen → Below base w w' → w.grownBy w' v.ownBlock → wpList P ops Q rest (a.put o.dst (.slice A' (n + m) c')) w') :
    wpList P ops Q (o :: rest) a (w.alloc (.cells cs tb)) := by
  subst hcs
  obtain ⟨i, hi', hz0, hsz, hby⟩ := info_parts hi
  refine wpList_append_own _ hgd s x t ho base e i z 1 bytes ht hi' hz0 hsz hby hz1 (by decide) v n xs hs (hown.alloc _) ⟨w.heap.size, 0, none⟩ m m us hx (by omega) ?_ h1 (by unfold maxLen; omega) hn (by simp; omega) ?_
  · intro j u hj
    have hb : Blk (w.alloc (.cells us.toArray tb)) w.heap.size tb us := Blk.new rfl
    have := hb.cell hj
    rw [addr_add, Nat.zero_add]
    exact this
  · intro v' w' h2 h3 _
    have h4 : Below base w w' := ((Below.refl base w).alloc hbase _).grown h3 (by simp; omega) (by intro k hk; exact (hown.lt k hk).1)
    have hR := Rd.of_own h2
    obtain ⟨A', c', rfl, h5, h6⟩ := hR.form
    have h7 : Below w.heap.size w (w.alloc (.cells us.toArray tb)) := (Below.refl w.heap.size w).alloc (Nat.le_refl _) _
    exact h A' c' w' h2 h5 h6 h4 ⟨h3.os, h3.tape, h3.output, Nat.le_trans h7.size h3.size, fun k hk hne => (h3.block k (Nat.lt_of_lt_of_le hk h7.size) hne).trans (h7.block k hk)⟩
theorem Dg.grownV {l : List UInt32} {v s : Value} {X Y : World} {base : Nat} (h : Dg l v X) (hf : Fr base v) (hk : ∀ k, s.ownBlock = some k → k < base) (hgr : X.grownBy Y s.ownBlock) : Dg l v Y := by
  cases hs : s.ownBlock with
  | some g =>
    rw [hs] at hgr
    exact h.grown hf (hk g hs) hgr
  | none =>
    rw [hs] at hgr
    obtain ⟨A, c, rfl, hr⟩ := h
    refine ⟨A, c, rfl, hr.keep hgr.size fun p hp => World.cell?_of_block (hgr.block _ hp (fun h => by cases h))⟩

theorem ntextC (a : List UInt8) (w : World) (ha : a.length ≤ 4194304) :
    Calls Tryd.prog 46 #[.string ⟨a.toArray⟩] w fun e w' => e = .returned (.string ⟨(txt (val a)).toArray⟩) ∧ Below w.heap.size w w' := by
  have la := ld_val a
  have ht := txd_of_bytes (val_lt a)
  obtain ⟨N, hN⟩ : ∃ N, val a = N := ⟨_, rfl⟩
  rw [hN] at la ht ⊢
  have HN := Lib.hid hN
  clear hN
  go_enter Tryd.func46, Tryd.ntmps46
  go_upto_region 2 with (fail)
  refine lx_plain [none, some (Lm (val a))] (lasts_none (lasts_some (Dg.lasts _) (lasts_nil))) ?_
  simp only [iX, Nat.reduceAdd]
  refine jm (st a) ?_
  refine jk (fun X hX hF => loadC a X (by omega)) ?_
  intro v7
  refine jm (v7) ?_
  refine jm (.int .u32 0) ?_
  refine lx_nil ?_
  intro X1 hX1 hF
  have hv7 := hF _ _ List.mem_cons_self
  have hb : Below w.heap.size w X1 := hX1
  clear hF hX1
  rw [HN.out] at hv7
  go_wp2
  go_loopw [3, 4, 5] (fun bv xw dv wr => ∃ (l : List UInt8) (m d : Nat) (xv : Value), xv = xw ∧ dv = .int .u32 (d : Int) ∧ wr.ownsRow w.heap.size 5 1 bv l.length (l.map B8) ∧ Lm m xv wr ∧ txd N = l ++ txd m ∧ (ld m).length ≤ 4194304 ∧ Below w.heap.size w wr) (fun bv _ _ _ => (txd N).length - (match bv with | .slice _ n _ => n | _ => 0))
  case atStart => exact ⟨[], N, 0, _, rfl, rfl, own_nil _ _ _, hv7, rfl, by omega, hb⟩
  case round =>
    clear hv7 hb
    obtain ⟨l, m, d, xv, rfl, rfl, hown, hx, htx, hlm, hb⟩ := hrel
    have hll : l.length ≤ (txd N).length := by rw [htx, List.length_append]; omega
    have HTX := Lib.hid htx
    clear htx
    obtain ⟨A1, c1, rfl, hc1, hc1'⟩ := (Rd.of_own hown).form
    rcases Nat.eq_zero_or_pos m with hm | hm
    · have hl0 := ld_none hm
      have HT : Hid (txd N = l) := by show _ = _; rw [HTX.out, hm, txd_zero, List.append_nil]
      clear hm
      go_upto_region 3 with (fail)
      refine jp ?_
      refine jm (xv) ?_
      refine jg (.int .i64 ((ld m).length : Int)) (fun X hX hF => by obtain ⟨A9, c9, h9, _⟩ := ((Dg.lasts _) _ _ _ hx hX); subst h9; exact exec_lenv Tryd.underlying108 _ (by rfl) A9 _ c9 (by rfl) _ rfl X) ?_
      refine jv (.bool false) (exec_gtr _ _ _ _ (by rfl) .i64 ((ld m).length : Int) 0 (by rfl) (by rfl) false (decide_eq_false (by omega))) ?_
      refine jz fun X1 hX1 => ?_
      have hx := (Dg.lasts _) _ _ _ hx hX1
      have hown := own_below hown hX1
      have hb := bel_next hb hX1
      clear hX1
      rcases Nat.eq_zero_or_pos N with hN0 | hN0
      · have hl9 : l.length ≤ 0 := by rw [← HT.out, hN0]; exact Nat.le_refl 0
        have HX : Hid (txt N = [48]) := by show _ = _; unfold txt; rw [if_pos hN0]
        clear hN0
        go_upto_region 6 with (fail)
        refine jp ?_
        refine jm (.slice A1 l.length c1) ?_
        refine jv (.int .i64 (l.length : Int)) (exec_lenv Tryd.underlying106 _ (by rfl) A1 l.length c1 (by rfl) _ rfl) ?_
        refine jv (.bool true) (exec_eqi _ _ _ _ (by rfl) .i64 (l.length : Int) 0 (by rfl) (by rfl) true (decide_eq_true (by omega))) ?_
        refine jz fun X2 hX2 => ?_
        have hx := (Dg.lasts _) _ _ _ hx hX2
        have hown := own_below hown hX2
        have hb := bel_next hb hX2
        clear hX2
        go_wp2
        go_ret
        exact ⟨by rw [HX.out]; rfl, hb⟩
      · have hl9 : 0 < l.length := by
          rw [← HT.out]
          exact List.length_pos_iff.2 (fun h => by rw [txd_nil] at h; omega)
        have HX : Hid (txt N = l.reverse) := by
          show _ = _
          unfold txt
          rw [if_neg (by omega), HT.out]
        clear hN0
        go_upto_region 6 with (fail)
        refine jp ?_
        refine jm (.slice A1 l.length c1) ?_
        refine jv (.int .i64 (l.length : Int)) (exec_lenv Tryd.underlying106 _ (by rfl) A1 l.length c1 (by rfl) _ rfl) ?_
        refine jv (.bool false) (exec_eqi _ _ _ _ (by rfl) .i64 (l.length : Int) 0 (by rfl) (by rfl) false (decide_eq_false (by omega))) ?_
        refine jz fun X2 hX2 => ?_
        have hx := (Dg.lasts _) _ _ _ hx hX2
        have hown := own_below hown hX2
        have hb := bel_next hb hX2
        clear hX2
        go_wp2_with fail
        refine (reverseC w.heap.size A1 l.length c1 l _ hown hb.size).mono ?_
        rintro e w2 ⟨rfl, hown2, hb2⟩
        have hs1 := run_str 106 9 5 Tryd.underlying106 Tryd.underlying5 Tryd.underlying9 (Rd.of_own hown2)
        have bb2 := hb.trans hb2
        clear hown hown2 hb hb2
        go_wp2
        go_ret
        exact ⟨by rw [HX.out]; rfl, bb2⟩
    · have hl0 := ld_pos hm
      have hl2 := ld_le (Nat.div_le_self m 10)
      have hmd := Nat.mod_lt m (show 0 < 10 by omega)
      have HS : Hid (txd m = UInt8.ofNat (48 + m % 10) :: txd (m / 10)) := txd_step hm
      have hlt : l.length < (txd N).length := by rw [HTX.out, HS.out, List.length_append, List.length_cons]; omega
      have HD : Hid (#[Value.int .u8 ((48 + m % 10 : Nat) : Int)] = [B8 (UInt8.ofNat (48 + m % 10))].toArray) := by
        show _ = _
        rw [B8n, Nat.mod_eq_of_lt (show 48 + m % 10 < 256 by omega)]
      go_upto_region 3 with (fail)
      refine jp ?_
      refine jm (xv) ?_
      refine jg (.int .i64 ((ld m).length : Int)) (fun X hX hF => by obtain ⟨A9, c9, h9, _⟩ := ((Dg.lasts _) _ _ _ hx hX); subst h9; exact exec_lenv Tryd.underlying108 _ (by rfl) A9 _ c9 (by rfl) _ rfl X) ?_
      refine jv (.bool true) (exec_gtr _ _ _ _ (by rfl) .i64 ((ld m).length : Int) 0 (by rfl) (by rfl) true (decide_eq_true (by omega))) ?_
      refine jz fun X1 hX1 => ?_
      have hx := (Dg.lasts _) _ _ _ hx hX1
      have hown := own_below hown hX1
      have hb := bel_next hb hX1
      clear hX1
      have hkk : ∀ k, (Value.slice A1 l.length c1).ownBlock = some k → k < X1.heap.size := fun k hk => (hown.lt k hk).2
      have HKK := Lib.hid hkk
      clear hkk
      go_upto_region 5 with (fail)
      refine lx_plain_to 2 [none, some (fun q Y => ∃ u, q = .tuple #[u, .int .u32 ((m % 10 : Nat) : Int)] ∧ Lm (m / 10) u Y ∧ Fr X1.heap.size u)] (lasts_none (lasts_some ((by rintro q X Y ⟨u, h1, h2, h3⟩ hS; exact ⟨u, h1, h2.bel hS, h3⟩)) (lasts_nil))) ?_
      simp only [its, List.take, List.drop, Nat.zero_add, Nat.reduceAdd]
      refine jm (xv) ?_
      refine jk (fun X hX hF => (smallF xv m 10 X ((Dg.lasts _) _ _ _ hx hX) (by omega) (by omega) (by omega)).mono fun e X' ⟨u, h1, h2, h3, h4⟩ => ⟨_, h1, ⟨u, rfl, h2, h3.weak hX.size⟩, h4⟩) ?_
      intro v19
      refine lx_nil ?_
      intro X2 hX2 hF
      have hx := (Dg.lasts _) _ _ _ hx hX2
      have hv19 := hF _ _ List.mem_cons_self
      have hown := own_below hown hX2
      have hb := bel_next hb hX2
      clear hF hX2
      obtain ⟨xv', rfl, hx', hfr⟩ := hv19
      clear hx
      go_upto_region 4 with (fail)
      refine jq 4 ?_
      refine jm (.slice A1 l.length c1) ?_
      refine jm (.int .u32 ((m % 10 : Nat) : Int)) ?_
      refine jv (.int .u32 ((48 + m % 10 : Nat) : Int)) (exec_addk _ _ _ _ (by rfl) .u32 48 ((m % 10 : Nat) : Int) ((48 + m % 10 : Nat) : Int) (by rfl) (by rfl) (by rw [w32 (by omega) (by omega)]; omega)) ?_
      refine jv (.int .u8 ((48 + m % 10 : Nat) : Int)) (exec_cnv _ _ .u32 .u8 Tryd.underlying110 Tryd.underlying5 _ (by rfl) ((48 + m % 10 : Nat) : Int) ((48 + m % 10 : Nat) : Int) (by rfl) (by rw [w8 (by omega) (by omega)])) ?_
      refine jz fun X3 hX3 => ?_
      have hx' := (Dg.lasts _) _ _ _ hx' hX3
      have hown := own_below hown hX3
      have hb := bel_next hb hX3
      clear hX3
      go_wp2_with (at_builtin; refine app_newG rfl rfl Tryd.underlying106 info_u8 rfl (w.heap.size) _ (l.length) _ [B8 (UInt8.ofNat (48 + m % 10))] HD.out rfl hown (m := 1) rfl rfl (fun u hu => by rw [List.mem_singleton.1 hu]; rfl) (by omega) (by omega) hb.size ?_; intro A3 c3 w3 hown3 hc4 hc5 hb3 hgr3)
      go_roundw
      case rel => exact ⟨l ++ [UInt8.ofNat (48 + m % 10)], m / 10, m % 10, _, rfl, rfl, by rw [List.length_append, List.length_singleton, List.map_append]; exact hown3, hx'.grownV hfr HKK.out hgr3, by rw [HTX.out, HS.out, List.append_assoc]; rfl, by omega, hb.trans hb3⟩
      case measure => simp; omega

end Go.Proofs.YtchhlgcakjjncaaDoor
namespace Go.Proofs.YtchhlgcakjjncaaDoor
open Go.RowKit

/-- What Parse hands back. -/
def parV (s : List UInt8) : Value := if pok s = true then .tuple #[.string ⟨(be (dval s)).toArray⟩, .int .i64 0] else .tuple #[.string ⟨#[]⟩, .int .i64 27]
theorem parV_t {s : List UInt8} (h : pok s = true) : parV s = .tuple #[.string ⟨(be (dval s)).toArray⟩, .int .i64 0] := by unfold parV; rw [if_pos h]
theorem parV_f {s : List UInt8} (h : pok s = false) : parV s = .tuple #[.string ⟨#[]⟩, .int .i64 27] := by unfold parV; rw [if_neg (by rw [h]; exact Bool.false_ne_true)]
theorem pok_bad {s : List UInt8} {k : Nat} (hk : k < s.length) (h : ¬ (48 ≤ (s.getD k 0).toNat ∧ (s.getD k 0).toNat ≤ 57)) : pok s = false := by
  have h1 : isd s = false := by
    rcases hq : isd s with _ | _
    · rfl
    · exfalso
      have := isd_take (k + 1) hq
      rw [isd_take_succ s hk, decide_eq_false h, Bool.and_false] at this
      cases this
  unfold pok
  rw [h1, Bool.and_false]
theorem one_of {s : List UInt8} (h : s.length = 1) (hc : (s.getD 0 0).toNat = 48) : s = [48] := by
  match s, h with
  | [c], _ =>
    have : c = 48 := UInt8.toNat_inj.1 hc
    rw [this]
theorem nparN (w : World) : Calls Tryd.prog 50 #[.string ⟨([] : List UInt8).toArray⟩] w fun e w' => e = .returned (parV []) ∧ Below w.heap.size w w' := by
  go_enter Tryd.func50, Tryd.ntmps50
  go_upto_region 1 with (fail)
  refine jp ?_
  refine jm (st []) ?_
  refine jv (.bool true) (exec_eqsB _ _ _ _ (by rfl) ([] : List UInt8) ([] : List UInt8) (by rfl) (by rfl) true rfl) ?_
  refine jm (.bool true) ?_
  refine js ?_
  refine js ?_
  refine js ?_
  refine js ?_
  refine js ?_
  refine js ?_
  refine js ?_
  refine jm (.bool true) ?_
  refine jz fun X1 hX1 => ?_
  have hb : Below w.heap.size w X1 := hX1
  clear hX1
  go_wp2
  go_ret2
  exact ⟨rfl, hb⟩

theorem nparL (s : List UInt8) (w : World) (hs : s.length ≤ 4194304) (h0 : 0 < s.length) (hc0 : (s.getD 0 0).toNat = 48) (hn1 : s ≠ [48]) : Calls Tryd.prog 50 #[.string ⟨s.toArray⟩] w fun e w' => e = .returned (parV s) ∧ Below w.heap.size w w' := by
  have HNE : Hid (s ≠ []) := fun h => by rw [h] at h0; exact absurd h0 (by decide)
  have HN1 := Lib.hid hn1
  have HBAD : Hid (parV s = .tuple #[.string ⟨#[]⟩, .int .i64 27]) := parV_f (by
    unfold pok
    rw [hc0, nes_t hn1]
    simp)
  have hc1 : (s.getD 0 0).toNat ≤ 48 ∧ 48 ≤ (s.getD 0 0).toNat := by omega
  clear hc0 hn1
  go_enter Tryd.func50, Tryd.ntmps50
  go_upto_region 1 with (fail)
  refine jp ?_
  refine jm (st s) ?_
  refine jv (.bool false) (exec_eqsB _ _ _ _ (by rfl) s ([] : List UInt8) (by rfl) (by rfl) false (eqs_f HNE.out)) ?_
  refine jm (.bool false) ?_
  refine jm (st s) ?_
  refine jv (.int .u8 ((s.getD 0 0).toNat : Int)) (exec_chr _ Tryd.underlying9 _ _ (by rfl) s 0 (by rfl) (by rfl) (by omega) (by omega)) ?_
  refine jv (.bool true) (exec_eqi _ _ _ _ (by rfl) .u8 ((s.getD 0 0).toNat : Int) 48 (by rfl) (by rfl) true (decide_eq_true (by omega))) ?_
  refine jm (.bool true) ?_
  refine jm (st s) ?_
  refine jv (.bool true) (exec_nesB _ _ _ _ (by rfl) s ([48] : List UInt8) (by rfl) (by rfl) true (nes_t HN1.out)) ?_
  refine jm (.bool true) ?_
  refine jm (.bool true) ?_
  refine jz fun X1 hX1 => ?_
  have hb : Below w.heap.size w X1 := hX1
  clear hX1
  go_wp2
  go_ret2
  exact ⟨by rw [HBAD.out]; rfl, hb⟩

theorem nparZ (s : List UInt8) (w : World) (hs : s.length ≤ 4194304) (h0 : 0 < s.length) (hc0 : (s.getD 0 0).toNat = 48) (hn1 : s = [48]) : Calls Tryd.prog 50 #[.string ⟨s.toArray⟩] w fun e w' => e = .returned (parV s) ∧ Below w.heap.size w w' := by
  have HNE : Hid (s ≠ []) := fun h => by rw [h] at h0; exact absurd h0 (by decide)
  have HN1 := Lib.hid hn1
  have HPO : Hid (isd s = true → pok s = true) := fun h => by
    unfold pok
    rw [h]
    have h1 : s.isEmpty = false := by
      cases s with
      | nil => exact absurd rfl HNE.out
      | cons c r => rfl
    rw [h1]
    rw [nes_f hn1]
    simp
  have hc1 : (s.getD 0 0).toNat ≤ 48 ∧ 48 ≤ (s.getD 0 0).toNat := by omega
  clear hc0 hn1
  go_enter Tryd.func50, Tryd.ntmps50
  go_upto_region 1 with (fail)
  refine jp ?_
  refine jm (st s) ?_
  refine jv (.bool false) (exec_eqsB _ _ _ _ (by rfl) s ([] : List UInt8) (by rfl) (by rfl) false (eqs_f HNE.out)) ?_
  refine jm (.bool false) ?_
  refine jm (st s) ?_
  refine jv (.int .u8 ((s.getD 0 0).toNat : Int)) (exec_chr _ Tryd.underlying9 _ _ (by rfl) s 0 (by rfl) (by rfl) (by omega) (by omega)) ?_
  refine jv (.bool true) (exec_eqi _ _ _ _ (by rfl) .u8 ((s.getD 0 0).toNat : Int) 48 (by rfl) (by rfl) true (decide_eq_true (by omega))) ?_
  refine jm (.bool true) ?_
  refine jm (st s) ?_
  refine jv (.bool false) (exec_nesB _ _ _ _ (by rfl) s ([48] : List UInt8) (by rfl) (by rfl) false (nes_f HN1.out)) ?_
  refine jm (.bool false) ?_
  refine jm (.bool false) ?_
  refine jz fun X1 hX1 => ?_
  have hb : Below w.heap.size w X1 := hX1
  clear hX1
  go_upto_region 4 with (fail)
  refine lx_plain [none, some (Bts s)] (lasts_none (lasts_some (Bts.lasts _) (lasts_nil))) ?_
  simp only [iX, Nat.reduceAdd]
  refine jm (st s) ?_
  refine lx_bytes (by rfl) 9 106 5 _ (by rfl) s (by rfl) Tryd.underlying9 Tryd.underlying106 Tryd.underlying5 (by omega) ?_
  intro v19
  simp only [pX]
  refine jg (.int .i64 (s.length : Int)) (fun X hX hF => by obtain ⟨A9, c9, h9, _⟩ := (hF _ _ List.mem_cons_self rfl); subst h9; exact exec_lenv Tryd.underlying106 _ (by rfl) A9 _ c9 (by rfl) _ rfl X) ?_
  refine jm (.int .i64 0) ?_
  refine lx_nil ?_
  intro X2 hX2 hF
  have hv19 := hF _ _ List.mem_cons_self
  have hb := bel_next hb hX2
  clear hF hX2
  obtain ⟨A2, c2, rfl, hR2⟩ := hv19
  have hRX : ∀ X, Since X2 X → Rd X 1 (.slice A2 s.length c2) s.length (s.map B8) := fun X h => hR2.below h
  have HRX := Lib.hid hRX
  have b2 : Below w.heap.size w X2 := hb
  clear hRX hR2 hb
  have hten : (ld 10).length ≤ 1 := ld_len (by decide)
  go_wp2
  go_loopw [4, 21] (fun xw kv wr => ∃ (k : Nat) (xv : Value), xv = xw ∧ k ≤ s.length ∧ kv = .int .i64 (k : Int) ∧ Lm (dval (s.take k)) xv wr ∧ isd (s.take k) = true ∧ Since X2 wr) (fun _ kv _ => s.length - (intOf kv).toNat)
  case atStart => exact ⟨0, _, rfl, by omega, rfl, Lm.zero _, rfl, Below.refl _ _⟩
  case round =>
    obtain ⟨k, xv, rfl, hk, rfl, hx, his, hs2⟩ := hrel
    have hlx := dval_ld his
    have hlk : (s.take k).length ≤ k := List.length_take_le _ _
    have HIS := Lib.hid his
    clear his
    by_cases hlt : k < s.length
    · obtain ⟨b, off, rfl, hbb, hc⟩ := (HRX.out _ hs2).byte hlt
      obtain ⟨y, hy⟩ : ∃ y, y = (s.getD k 0).toNat := ⟨_, rfl⟩
      have hy2 : y < 256 := hy ▸ u8_lt _
      rw [← hy] at hc
      have HY := Lib.hid hy
      clear hy
      have hb := hs2
      clear hs2
      go_upto_region 5 with (fail)
      refine jp ?_
      refine jv (.bool true) (exec_lss _ _ _ _ (by rfl) .i64 (k : Int) (s.length : Int) (by rfl) (by rfl) true (decide_eq_true (by omega))) ?_
      refine jz fun X1 hX1 => ?_
      have hx := (Dg.lasts _) _ _ _ hx hX1
      have hc := (Below.cell hX1 (p := ⟨b, off + k, none⟩) hbb).trans hc
      have hbb := Nat.lt_of_lt_of_le hbb (hX1).size
      have hb := bel_next hb hX1
      clear hX1
      go_upto_region 6 with (fail)
      refine jp ?_
      refine jv (.pointer (some ⟨b, off + k, none⟩)) (exec_ix1 Tryd.underlying106 size_u8 _ _ (by rfl) b (off) s.length c2 k (by omega) (by rfl) (by rfl) (by omega)) ?_
      refine jg (.int .u8 (y : Int)) (fun X hX hF => exec_ld 5 _ (by rfl) b (off + k) (by rfl) _ X ((Below.cell hX (p := ⟨b, off + k, none⟩) hbb).trans hc) (fun X u h => load_u8 b (off + k) X u h)) ?_
      refine jm (.int .u8 (y : Int)) ?_
      refine jz fun X2 hX2 => ?_
      have hx := (Dg.lasts _) _ _ _ hx hX2
      have hc := (Below.cell hX2 (p := ⟨b, off + k, none⟩) hbb).trans hc
      have hbb := Nat.lt_of_lt_of_le hbb (hX2).size
      have hb := bel_next hb hX2
      clear hX2
      by_cases hd : 48 ≤ y ∧ y ≤ 57
      · obtain ⟨hd1, hd2⟩ := hd
        have HDV : Hid (dval (s.take (k + 1)) = dval (s.take k) * 10 + lw [UInt32.ofNat (y - 48)]) := by
          show _ = _
          rw [dval_take_succ s hlt, ← HY.out, lw_one, u32n, Nat.mod_eq_of_lt (by omega), Nat.mul_comm]
        have HIS2 : Hid (isd (s.take (k + 1)) = true) := by
          show _ = _
          rw [isd_take_succ s hlt, HIS.out, ← HY.out, decide_eq_true ⟨hd1, hd2⟩]
          rfl
        have hl10 := ld_mul (dval (s.take k)) 10
        have hlw1 : (ld (lw [UInt32.ofNat (y - 48)])).length ≤ 1 := ld_len (lw_lt _)
        go_upto_region 7 with (fail)
        refine jp ?_
        refine jm (.int .u8 (y : Int)) ?_
        refine jv (.bool false) (exec_lss _ _ _ _ (by rfl) .u8 (y : Int) 48 (by rfl) (by rfl) false (decide_eq_false (by omega))) ?_
        refine jm (.bool false) ?_
        refine jm (.int .u8 (y : Int)) ?_
        refine jv (.bool false) (exec_gtr _ _ _ _ (by rfl) .u8 (y : Int) 57 (by rfl) (by rfl) false (decide_eq_false (by omega))) ?_
        refine jm (.bool false) ?_
        refine jz fun X3 hX3 => ?_
        have hx := (Dg.lasts _) _ _ _ hx hX3
        have hb := bel_next hb hX3
        clear hX3
        go_upto_region 9 with (fail)
        refine lx_plain [none, some (Lm 10), some (Lm ((dval (s.take k)) * 10)), none, none, none, some (Dg [UInt32.ofNat (y - 48)]), some (Lm (lw [UInt32.ofNat (y - 48)])), some (Lm (((dval (s.take k)) * 10) + (lw [UInt32.ofNat (y - 48)])))] (lasts_none (lasts_some (Dg.lasts _) (lasts_some (Dg.lasts _) (lasts_none (lasts_none (lasts_none (lasts_some (Dg.lasts _) (lasts_some (Dg.lasts _) (lasts_some (Dg.lasts _) (lasts_nil)))))))))) ?_
        simp only [iX, Nat.reduceAdd]
        refine jm (xv) ?_
        refine lx_new (by rfl) (fun X hX hF => exec_one _ (by rfl) 10 (by omega) (by omega) (by rfl) rfl X) ?_
        intro v32
        simp only [pX]
        refine jk (fun X hX hF => timesC xv v32 _ _ X ((Dg.lasts _) _ _ _ hx hX) (hF _ _ List.mem_cons_self rfl) (by omega) (by omega)) ?_
        intro v33
        refine jm (.int .u8 (y : Int)) ?_
        refine jv (.int .u8 ((y - 48 : Nat) : Int)) (exec_subk _ _ _ _ (by rfl) .u8 (y : Int) 48 ((y - 48 : Nat) : Int) (by rfl) (by rfl) (by rw [w8 (by omega) (by omega)]; omega)) ?_
        refine jv (.int .u32 ((y - 48 : Nat) : Int)) (exec_cnv _ _ .u8 .u32 Tryd.underlying5 Tryd.underlying110 _ (by rfl) ((y - 48 : Nat) : Int) ((y - 48 : Nat) : Int) (by rfl) (by rw [w32 (by omega) (by omega)])) ?_
        refine lx_new (by rfl) (fun X hX hF => ⟨_, _, exec_bs1 _ (by rfl) _ (by rfl) X, Dg.new1 X _ (UInt32.ofNat (y - 48)) (by rw [u32n]; omega), since_alloc X _⟩) ?_
        intro v37
        simp only [pX]
        refine jk (fun X hX hF => trimD _ v37 X (hF _ _ List.mem_cons_self rfl) (by first | omega | (simp only [List.length_cons, List.length_nil]; omega))) ?_
        intro v38
        refine jk (fun X hX hF => plusC v33 v38 _ _ X (hF _ _ (List.mem_cons_of_mem _ (List.mem_cons_of_mem _ List.mem_cons_self)) rfl) (hF _ _ List.mem_cons_self rfl) (by omega) (by omega)) ?_
        intro v39
        refine jm (v39) ?_
        refine lx_nil ?_
        intro X4 hX4 hF
        have hx := (Dg.lasts _) _ _ _ hx hX4
        have hv32 := hF _ _ (List.mem_cons_of_mem _ (List.mem_cons_of_mem _ (List.mem_cons_of_mem _ (List.mem_cons_of_mem _ List.mem_cons_self))))
        have hv33 := hF _ _ (List.mem_cons_of_mem _ (List.mem_cons_of_mem _ (List.mem_cons_of_mem _ List.mem_cons_self)))
        have hv37 := hF _ _ (List.mem_cons_of_mem _ (List.mem_cons_of_mem _ List.mem_cons_self))
        have hv38 := hF _ _ (List.mem_cons_of_mem _ List.mem_cons_self)
        have hv39 := hF _ _ List.mem_cons_self
        have hb := bel_next hb hX4
        clear hF hX4
        have hv39' := hv39
        rw [← HDV.out] at hv39'
        clear hc hx hv33 hv32 hv37 hv38 hv39 hlx
        go_wp2
        go_roundw
        case rel => exact ⟨k + 1, _, rfl, by omega, by go_num, hv39', HIS2.out, hb⟩
        case measure => simp [intOf]; omega
      · have HBAD : Hid (parV s = .tuple #[.string ⟨#[]⟩, .int .i64 27]) := parV_f (pok_bad hlt (by rw [← HY.out]; exact hd))
        rcases Nat.lt_or_ge y 48 with h48 | h48
        · clear hd
          go_upto_region 7 with (fail)
          refine jp ?_
          refine jm (.int .u8 (y : Int)) ?_
          refine jv (.bool true) (exec_lss _ _ _ _ (by rfl) .u8 (y : Int) 48 (by rfl) (by rfl) true (decide_eq_true (by omega))) ?_
          refine jm (.bool true) ?_
          refine js ?_
          refine js ?_
          refine jm (.bool true) ?_
          refine jz fun X3 hX3 => ?_
          have hx := (Dg.lasts _) _ _ _ hx hX3
          have hb := bel_next hb hX3
          clear hX3
          go_wp2
          go_ret2
          exact ⟨by rw [HBAD.out]; rfl, b2.trans (hb.mono b2.size)⟩
        · have h57 : 57 < y := by omega
          clear hd
          go_upto_region 7 with (fail)
          refine jp ?_
          refine jm (.int .u8 (y : Int)) ?_
          refine jv (.bool false) (exec_lss _ _ _ _ (by rfl) .u8 (y : Int) 48 (by rfl) (by rfl) false (decide_eq_false (by omega))) ?_
          refine jm (.bool false) ?_
          refine jm (.int .u8 (y : Int)) ?_
          refine jv (.bool true) (exec_gtr _ _ _ _ (by rfl) .u8 (y : Int) 57 (by rfl) (by rfl) true (decide_eq_true (by omega))) ?_
          refine jm (.bool true) ?_
          refine jz fun X3 hX3 => ?_
          have hx := (Dg.lasts _) _ _ _ hx hX3
          have hb := bel_next hb hX3
          clear hX3
          go_wp2
          go_ret2
          exact ⟨by rw [HBAD.out]; rfl, b2.trans (hb.mono b2.size)⟩
    · have HT : Hid (s.take k = s) := List.take_of_length_le (by omega)
      have HOK : Hid (parV s = .tuple #[.string ⟨(be (dval s)).toArray⟩, .int .i64 0]) := parV_t (HPO.out (by rw [← HT.out]; exact HIS.out))
      rw [HT.out] at hx hlx
      have hb := hs2
      clear hs2
      go_upto_region 5 with (fail)
      refine jp ?_
      refine jv (.bool false) (exec_lss _ _ _ _ (by rfl) .i64 (k : Int) (s.length : Int) (by rfl) (by rfl) false (decide_eq_false (by omega))) ?_
      refine jz fun X1 hX1 => ?_
      have hx := (Dg.lasts _) _ _ _ hx hX1
      have hb := bel_next hb hX1
      clear hX1
      go_upto_region 11 with (fail)
      refine jp ?_
      refine jm (xv) ?_
      refine jc (st (be (dval s))) (fun X hX hF => textL xv _ X ((Dg.lasts _) _ _ _ hx hX) (by omega)) ?_
      refine jm (st (be (dval s))) ?_
      refine jm (.int .i64 0) ?_
      refine jz fun X2 hX2 => ?_
      have hx := (Dg.lasts _) _ _ _ hx hX2
      have hb := bel_next hb hX2
      clear hX2
      go_wp2
      go_ret2
      exact ⟨by rw [HOK.out]; rfl, b2.trans (hb.mono b2.size)⟩

theorem nparO (s : List UInt8) (w : World) (hs : s.length ≤ 4194304) (h0 : 0 < s.length) (hc0 : ¬ (s.getD 0 0).toNat = 48) : Calls Tryd.prog 50 #[.string ⟨s.toArray⟩] w fun e w' => e = .returned (parV s) ∧ Below w.heap.size w w' := by
  have HNE : Hid (s ≠ []) := fun h => by rw [h] at h0; exact absurd h0 (by decide)
  have HPO : Hid (isd s = true → pok s = true) := fun h => by
    unfold pok
    rw [h]
    have h1 : s.isEmpty = false := by
      cases s with
      | nil => exact absurd rfl HNE.out
      | cons c r => rfl
    rw [h1]
    have h2 : ((s.getD 0 0).toNat == 48) = false := beq_eq_false_iff_ne.2 hc0
    rw [h2]
    rfl
  go_enter Tryd.func50, Tryd.ntmps50
  go_upto_region 1 with (fail)
  refine jp ?_
  refine jm (st s) ?_
  refine jv (.bool false) (exec_eqsB _ _ _ _ (by rfl) s ([] : List UInt8) (by rfl) (by rfl) false (eqs_f HNE.out)) ?_
  refine jm (.bool false) ?_
  refine jm (st s) ?_
  refine jv (.int .u8 ((s.getD 0 0).toNat : Int)) (exec_chr _ Tryd.underlying9 _ _ (by rfl) s 0 (by rfl) (by rfl) (by omega) (by omega)) ?_
  refine jv (.bool false) (exec_eqi _ _ _ _ (by rfl) .u8 ((s.getD 0 0).toNat : Int) 48 (by rfl) (by rfl) false (decide_eq_false (by omega))) ?_
  refine jm (.bool false) ?_
  refine js ?_
  refine js ?_
  refine jm (.bool false) ?_
  refine jm (.bool false) ?_
  refine jz fun X1 hX1 => ?_
  have hb : Below w.heap.size w X1 := hX1
  clear hX1
  go_upto_region 4 with (fail)
  refine lx_plain [none, some (Bts s)] (lasts_none (lasts_some (Bts.lasts _) (lasts_nil))) ?_
  simp only [iX, Nat.reduceAdd]
  refine jm (st s) ?_
  refine lx_bytes (by rfl) 9 106 5 _ (by rfl) s (by rfl) Tryd.underlying9 Tryd.underlying106 Tryd.underlying5 (by omega) ?_
  intro v19
  simp only [pX]
  refine jg (.int .i64 (s.length : Int)) (fun X hX hF => by obtain ⟨A9, c9, h9, _⟩ := (hF _ _ List.mem_cons_self rfl); subst h9; exact exec_lenv Tryd.underlying106 _ (by rfl) A9 _ c9 (by rfl) _ rfl X) ?_
  refine jm (.int .i64 0) ?_
  refine lx_nil ?_
  intro X2 hX2 hF
  have hv19 := hF _ _ List.mem_cons_self
  have hb := bel_next hb hX2
  clear hF hX2
  obtain ⟨A2, c2, rfl, hR2⟩ := hv19
  have hRX : ∀ X, Since X2 X → Rd X 1 (.slice A2 s.length c2) s.length (s.map B8) := fun X h => hR2.below h
  have HRX := Lib.hid hRX
  have b2 : Below w.heap.size w X2 := hb
  clear hRX hR2 hb
  have hten : (ld 10).length ≤ 1 := ld_len (by decide)
  go_wp2
  go_loopw [4, 21] (fun xw kv wr => ∃ (k : Nat) (xv : Value), xv = xw ∧ k ≤ s.length ∧ kv = .int .i64 (k : Int) ∧ Lm (dval (s.take k)) xv wr ∧ isd (s.take k) = true ∧ Since X2 wr) (fun _ kv _ => s.length - (intOf kv).toNat)
  case atStart => exact ⟨0, _, rfl, by omega, rfl, Lm.zero _, rfl, Below.refl _ _⟩
  case round =>
    obtain ⟨k, xv, rfl, hk, rfl, hx, his, hs2⟩ := hrel
    have hlx := dval_ld his
    have hlk : (s.take k).length ≤ k := List.length_take_le _ _
    have HIS := Lib.hid his
    clear his
    by_cases hlt : k < s.length
    · obtain ⟨b, off, rfl, hbb, hc⟩ := (HRX.out _ hs2).byte hlt
      obtain ⟨y, hy⟩ : ∃ y, y = (s.getD k 0).toNat := ⟨_, rfl⟩
      have hy2 : y < 256 := hy ▸ u8_lt _
      rw [← hy] at hc
      have HY := Lib.hid hy
      clear hy
      have hb := hs2
      clear hs2
      go_upto_region 5 with (fail)
      refine jp ?_
      refine jv (.bool true) (exec_lss _ _ _ _ (by rfl) .i64 (k : Int) (s.length : Int) (by rfl) (by rfl) true (decide_eq_true (by omega))) ?_
      refine jz fun X1 hX1 => ?_
      have hx := (Dg.lasts _) _ _ _ hx hX1
      have hc := (Below.cell hX1 (p := ⟨b, off + k, none⟩) hbb).trans hc
      have hbb := Nat.lt_of_lt_of_le hbb (hX1).size
      have hb := bel_next hb hX1
      clear hX1
      go_upto_region 6 with (fail)
      refine jp ?_
      refine jv (.pointer (some ⟨b, off + k, none⟩)) (exec_ix1 Tryd.underlying106 size_u8 _ _ (by rfl) b (off) s.length c2 k (by omega) (by rfl) (by rfl) (by omega)) ?_
      refine jg (.int .u8 (y : Int)) (fun X hX hF => exec_ld 5 _ (by rfl) b (off + k) (by rfl) _ X ((Below.cell hX (p := ⟨b, off + k, none⟩) hbb).trans hc) (fun X u h => load_u8 b (off + k) X u h)) ?_
      refine jm (.int .u8 (y : Int)) ?_
      refine jz fun X2 hX2 => ?_
      have hx := (Dg.lasts _) _ _ _ hx hX2
      have hc := (Below.cell hX2 (p := ⟨b, off + k, none⟩) hbb).trans hc
      have hbb := Nat.lt_of_lt_of_le hbb (hX2).size
      have hb := bel_next hb hX2
      clear hX2
      by_cases hd : 48 ≤ y ∧ y ≤ 57
      · obtain ⟨hd1, hd2⟩ := hd
        have HDV : Hid (dval (s.take (k + 1)) = dval (s.take k) * 10 + lw [UInt32.ofNat (y - 48)]) := by
          show _ = _
          rw [dval_take_succ s hlt, ← HY.out, lw_one, u32n, Nat.mod_eq_of_lt (by omega), Nat.mul_comm]
        have HIS2 : Hid (isd (s.take (k + 1)) = true) := by
          show _ = _
          rw [isd_take_succ s hlt, HIS.out, ← HY.out, decide_eq_true ⟨hd1, hd2⟩]
          rfl
        have hl10 := ld_mul (dval (s.take k)) 10
        have hlw1 : (ld (lw [UInt32.ofNat (y - 48)])).length ≤ 1 := ld_len (lw_lt _)
        go_upto_region 7 with (fail)
        refine jp ?_
        refine jm (.int .u8 (y : Int)) ?_
        refine jv (.bool false) (exec_lss _ _ _ _ (by rfl) .u8 (y : Int) 48 (by rfl) (by rfl) false (decide_eq_false (by omega))) ?_
        refine jm (.bool false) ?_
        refine jm (.int .u8 (y : Int)) ?_
        refine jv (.bool false) (exec_gtr _ _ _ _ (by rfl) .u8 (y : Int) 57 (by rfl) (by rfl) false (decide_eq_false (by omega))) ?_
        refine jm (.bool false) ?_
        refine jz fun X3 hX3 => ?_
        have hx := (Dg.lasts _) _ _ _ hx hX3
        have hb := bel_next hb hX3
        clear hX3
        go_upto_region 9 with (fail)
        refine lx_plain [none, some (Lm 10), some (Lm ((dval (s.take k)) * 10)), none, none, none, some (Dg [UInt32.ofNat (y - 48)]), some (Lm (lw [UInt32.ofNat (y - 48)])), some (Lm (((dval (s.take k)) * 10) + (lw [UInt32.ofNat (y - 48)])))] (lasts_none (lasts_some (Dg.lasts _) (lasts_some (Dg.lasts _) (lasts_none (lasts_none (lasts_none (lasts_some (Dg.lasts _) (lasts_some (Dg.lasts _) (lasts_some (Dg.lasts _) (lasts_nil)))))))))) ?_
        simp only [iX, Nat.reduceAdd]
        refine jm (xv) ?_
        refine lx_new (by rfl) (fun X hX hF => exec_one _ (by rfl) 10 (by omega) (by omega) (by rfl) rfl X) ?_
        intro v32
        simp only [pX]
        refine jk (fun X hX hF => timesC xv v32 _ _ X ((Dg.lasts _) _ _ _ hx hX) (hF _ _ List.mem_cons_self rfl) (by omega) (by omega)) ?_
        intro v33
        refine jm (.int .u8 (y : Int)) ?_
        refine jv (.int .u8 ((y - 48 : Nat) : Int)) (exec_subk _ _ _ _ (by rfl) .u8 (y : Int) 48 ((y - 48 : Nat) : Int) (by rfl) (by rfl) (by rw [w8 (by omega) (by omega)]; omega)) ?_
        refine jv (.int .u32 ((y - 48 : Nat) : Int)) (exec_cnv _ _ .u8 .u32 Tryd.underlying5 Tryd.underlying110 _ (by rfl) ((y - 48 : Nat) : Int) ((y - 48 : Nat) : Int) (by rfl) (by rw [w32 (by omega) (by omega)])) ?_
        refine lx_new (by rfl) (fun X hX hF => ⟨_, _, exec_bs1 _ (by rfl) _ (by rfl) X, Dg.new1 X _ (UInt32.ofNat (y - 48)) (by rw [u32n]; omega), since_alloc X _⟩) ?_
        intro v37
        simp only [pX]
        refine jk (fun X hX hF => trimD _ v37 X (hF _ _ List.mem_cons_self rfl) (by first | omega | (simp only [List.length_cons, List.length_nil]; omega))) ?_
        intro v38
        refine jk (fun X hX hF => plusC v33 v38 _ _ X (hF _ _ (List.mem_cons_of_mem _ (List.mem_cons_of_mem _ List.mem_cons_self)) rfl) (hF _ _ List.mem_cons_self rfl) (by omega) (by omega)) ?_
        intro v39
        refine jm (v39) ?_
        refine lx_nil ?_
        intro X4 hX4 hF
        have hx := (Dg.lasts _) _ _ _ hx hX4
        have hv32 := hF _ _ (List.mem_cons_of_mem _ (List.mem_cons_of_mem _ (List.mem_cons_of_mem _ (List.mem_cons_of_mem _ List.mem_cons_self))))
        have hv33 := hF _ _ (List.mem_cons_of_mem _ (List.mem_cons_of_mem _ (List.mem_cons_of_mem _ List.mem_cons_self)))
        have hv37 := hF _ _ (List.mem_cons_of_mem _ (List.mem_cons_of_mem _ List.mem_cons_self))
        have hv38 := hF _ _ (List.mem_cons_of_mem _ List.mem_cons_self)
        have hv39 := hF _ _ List.mem_cons_self
        have hb := bel_next hb hX4
        clear hF hX4
        have hv39' := hv39
        rw [← HDV.out] at hv39'
        clear hc hx hv33 hv32 hv37 hv38 hv39 hlx
        go_wp2
        go_roundw
        case rel => exact ⟨k + 1, _, rfl, by omega, by go_num, hv39', HIS2.out, hb⟩
        case measure => simp [intOf]; omega
      · have HBAD : Hid (parV s = .tuple #[.string ⟨#[]⟩, .int .i64 27]) := parV_f (pok_bad hlt (by rw [← HY.out]; exact hd))
        rcases Nat.lt_or_ge y 48 with h48 | h48
        · clear hd
          go_upto_region 7 with (fail)
          refine jp ?_
          refine jm (.int .u8 (y : Int)) ?_
          refine jv (.bool true) (exec_lss _ _ _ _ (by rfl) .u8 (y : Int) 48 (by rfl) (by rfl) true (decide_eq_true (by omega))) ?_
          refine jm (.bool true) ?_
          refine js ?_
          refine js ?_
          refine jm (.bool true) ?_
          refine jz fun X3 hX3 => ?_
          have hx := (Dg.lasts _) _ _ _ hx hX3
          have hb := bel_next hb hX3
          clear hX3
          go_wp2
          go_ret2
          exact ⟨by rw [HBAD.out]; rfl, b2.trans (hb.mono b2.size)⟩
        · have h57 : 57 < y := by omega
          clear hd
          go_upto_region 7 with (fail)
          refine jp ?_
          refine jm (.int .u8 (y : Int)) ?_
          refine jv (.bool false) (exec_lss _ _ _ _ (by rfl) .u8 (y : Int) 48 (by rfl) (by rfl) false (decide_eq_false (by omega))) ?_
          refine jm (.bool false) ?_
          refine jm (.int .u8 (y : Int)) ?_
          refine jv (.bool true) (exec_gtr _ _ _ _ (by rfl) .u8 (y : Int) 57 (by rfl) (by rfl) true (decide_eq_true (by omega))) ?_
          refine jm (.bool true) ?_
          refine jz fun X3 hX3 => ?_
          have hx := (Dg.lasts _) _ _ _ hx hX3
          have hb := bel_next hb hX3
          clear hX3
          go_wp2
          go_ret2
          exact ⟨by rw [HBAD.out]; rfl, b2.trans (hb.mono b2.size)⟩
    · have HT : Hid (s.take k = s) := List.take_of_length_le (by omega)
      have HOK : Hid (parV s = .tuple #[.string ⟨(be (dval s)).toArray⟩, .int .i64 0]) := parV_t (HPO.out (by rw [← HT.out]; exact HIS.out))
      rw [HT.out] at hx hlx
      have hb := hs2
      clear hs2
      go_upto_region 5 with (fail)
      refine jp ?_
      refine jv (.bool false) (exec_lss _ _ _ _ (by rfl) .i64 (k : Int) (s.length : Int) (by rfl) (by rfl) false (decide_eq_false (by omega))) ?_
      refine jz fun X1 hX1 => ?_
      have hx := (Dg.lasts _) _ _ _ hx hX1
      have hb := bel_next hb hX1
      clear hX1
      go_upto_region 11 with (fail)
      refine jp ?_
      refine jm (xv) ?_
      refine jc (st (be (dval s))) (fun X hX hF => textL xv _ X ((Dg.lasts _) _ _ _ hx hX) (by omega)) ?_
      refine jm (st (be (dval s))) ?_
      refine jm (.int .i64 0) ?_
      refine jz fun X2 hX2 => ?_
      have hx := (Dg.lasts _) _ _ _ hx hX2
      have hb := bel_next hb hX2
      clear hX2
      go_wp2
      go_ret2
      exact ⟨by rw [HOK.out]; rfl, b2.trans (hb.mono b2.size)⟩

theorem nparseC (s : List UInt8) (w : World) (hs : s.length ≤ 4194304) : Calls Tryd.prog 50 #[.string ⟨s.toArray⟩] w fun e w' => e = .returned (parV s) ∧ Below w.heap.size w w' := by
  rcases Nat.eq_zero_or_pos s.length with h0 | h0
  · obtain rfl : s = [] := List.eq_nil_of_length_eq_zero h0
    exact nparN w
  · by_cases hc : (s.getD 0 0).toNat = 48
    · by_cases h1 : s = [48]
      · exact nparZ s w hs h0 hc h1
      · exact nparL s w hs h0 hc h1
    · exact nparO s w hs h0 hc
end Go.Proofs.YtchhlgcakjjncaaDoor
