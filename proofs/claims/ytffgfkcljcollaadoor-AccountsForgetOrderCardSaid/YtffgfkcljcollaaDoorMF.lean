/-
  Division of numbers; DivMod. Value; Gcd. Gcd. Text. Parse.
-/
import Derived.OwnWalk
import Derived.Laws.EntriesVeiled
import Derived.Test.YtffgfkcljcollaaDoorNby
import Derived.Test.YtffgfkcljcollaaDoorMB
import Derived.Test.YtffgfkcljcollaaDoorMC
set_option linter.unusedSimpArgs false
set_option linter.unusedVariables false
set_option maxRecDepth 100000
set_option maxHeartbeats 1600000
namespace Go.Proofs.YtffgfkcljcollaaDoor
open Go.RowKit
/-- A quotient and a remainder. -/
def Pr (x y : Nat) (q : Value) (X : World) : Prop := ∃ u v, q = .tuple #[u, v] ∧ Lm x u X ∧ Lm y v X
theorem Pr.lasts (x y : Nat) : Lasts (Pr x y) := by
 rintro q X Y ⟨u, v, h1, h2, h3⟩ hS
 exact ⟨u, v, h1, h2.bel hS, h3.bel hS⟩
theorem byP (v v' : Value) (x0 y0 : Nat) (w : World) (hr : Lm x0 v w) (hr' : Lm y0 v' w) (hx : (ld x0).length ≤ 8388608) (hy : (ld y0).length ≤ 8388608) (hy0 : 0 < y0) :
  Calls Tryd.prog 67 #[v, v'] w fun e w' => ∃ q, e = .returned q ∧ Pr (x0 / y0) (x0 % y0) q w' ∧ Since w w' := by
 rcases Nat.lt_or_ge x0 y0 with h | h
 ·exact (byLt v v' x0 y0 w hr hr' hx hy h).mono fun e X' ⟨q, r, h1, h2, h3, h4⟩ => ⟨_, h1, ⟨q, r, rfl, h2, h3⟩, h4⟩
 ·rcases Nat.lt_or_ge (ld y0).length 2 with h1 | h1
  ·have h0 : 0 < (ld y0).length := List.length_pos_iff.2 (fun h => by rw [ld_nil] at h; omega)
   exact (byOne v v' x0 y0 w hr hr' hx hy h hy0 (by omega)).mono fun e X' ⟨q, r, h1, h2, h3, h4⟩ => ⟨_, h1, ⟨q, r, rfl, h2, h3⟩, h4⟩
  ·exact (byBig v v' x0 y0 w hr hr' hx hy h hy0 h1).mono fun e X' ⟨q, r, h1, h2, h3, h4⟩ => ⟨_, h1, ⟨q, r, rfl, h2, h3⟩, h4⟩
theorem ld_pos {x : Nat} (h : 0 < x) : 0 < (ld x).length := List.length_pos_iff.2 (fun h' => by rw [ld_nil] at h'; omega)
theorem ld_none {x : Nat} (h : x = 0) : (ld x).length ≤ 0 := by subst h; exact Nat.le_refl 0
theorem ndivC (a b : List UInt8) (w : World) (ha : a.length ≤ 4194304) (hb0 : b.length ≤ 4194304) (h0 : 0 < val b) :
  Calls Tryd.prog 56 #[.string ⟨a.toArray⟩, .string ⟨b.toArray⟩] w fun e w' => e = .returned (.tuple #[.string ⟨(be (val a / val b)).toArray⟩, .string ⟨(be (val a % val b)).toArray⟩, .int .i64 0]) ∧ Below w.heap.size w w' := by
 have la := ld_val a;have lb := ld_val b;have l0 := ld_pos h0;have l1 := ld_le (Nat.div_le_self (val a) (val b));have l2 := ld_le (Nat.mod_le (val a) (val b))
 go_enter Tryd.func56, Tryd.ntmps56
 go_upto_region 1 with fail;refine lx_plain [none, some (Lm (val a)), none, some (Lm (val b))] (lasts_none (lasts_some (Dg.lasts _) (lasts_none (lasts_some (Dg.lasts _) (lasts_nil))))) ?_;simp only [iX, Nat.reduceAdd];refine jm (st a) ?_;refine jk (fun X hX hF => loadC a X (by omega)) ?_;intro v12;refine jm (st b) ?_;refine jk (fun X hX hF => loadC b X (by omega)) ?_;intro v14;refine jm (v12) ?_;refine jm (v14) ?_;refine lx_nil ?_;intro X1 hX1 hF;have hv12 := hF _ _ (List.mem_cons_of_mem _ List.mem_cons_self);have hv14 := hF _ _ List.mem_cons_self;have hb : Below w.heap.size w X1 := hX1;clear hF hX1;go_upto_region 2 with fail;refine jp ?_;refine jm (v14) ?_;refine jg (.int .i64 ((ld (val b)).length : Int)) (fun X hX hF => by obtain ⟨A9, c9, h9, _⟩ := ((Dg.lasts _) _ _ _ hv14 hX); subst h9; exact exec_lenv Tryd.underlying103 _ (by rfl) A9 _ c9 (by rfl) _ rfl X) ?_;refine jv (.bool false) (exec_eqi _ _ _ _ (by rfl) .i64 ((ld (val b)).length : Int) 0 (by rfl) (by rfl) false (decide_eq_false (by omega))) ?_;refine jzb hb fun X2 hX2 hb => ?_;have hv12 := (Dg.lasts _) _ _ _ hv12 hX2;have hv14 := (Dg.lasts _) _ _ _ hv14 hX2;clear hX2;go_upto_region 4 with fail;refine lx_plain_to 3 [none, none, some (Pr ((val a) / (val b)) ((val a) % (val b)))] (lasts_none (lasts_none (lasts_some (Pr.lasts _ _) (lasts_nil)))) ?_;simp only [its, List.take, List.drop, Nat.zero_add, Nat.reduceAdd];refine jm (v12) ?_;refine jm (v14) ?_;refine jk (fun X hX hF => byP v12 v14 _ _ X ((Dg.lasts _) _ _ _ hv12 hX) ((Dg.lasts _) _ _ _ hv14 hX) (by omega) (by omega) (by omega)) ?_
 intro v21;refine lx_nil ?_;intro X3 hX3 hF;have hv12 := (Dg.lasts _) _ _ _ hv12 hX3;have hv14 := (Dg.lasts _) _ _ _ hv14 hX3;have hv21 := hF _ _ List.mem_cons_self;have hb := bel_next hb hX3;clear hF hX3;obtain ⟨q0, r0, rfl, hq, hr⟩ := hv21;go_upto_region 5 with fail;refine jp ?_;refine jm (q0) ?_;refine jc (st (be (val a / val b))) (fun X hX hF => textL q0 _ X ((Dg.lasts _) _ _ _ hq hX) (by omega)) ?_;refine jm (r0) ?_;refine jc (st (be (val a % val b))) (fun X hX hF => textL r0 _ X ((Dg.lasts _) _ _ _ hr hX) (by omega)) ?_;refine jm (st (be (val a / val b))) ?_;refine jm (st (be (val a % val b))) ?_;refine jm (.int .i64 0) ?_;refine jzb hb fun X4 hX4 hb => ?_;have hv12 := (Dg.lasts _) _ _ _ hv12 hX4;have hv14 := (Dg.lasts _) _ _ _ hv14 hX4;have hq := (Dg.lasts _) _ _ _ hq hX4;have hr := (Dg.lasts _) _ _ _ hr hX4;clear hX4
 go_wp2
 go_ret3
 exact ⟨rfl, hb⟩
theorem nintC (n : Nat) (w : World) (hn : n < 9223372036854775808) : Calls Tryd.prog 55 #[.int .i64 (n : Int)] w fun e w' => e = .returned (.tuple #[.string ⟨(be n).toArray⟩, .int .i64 0]) ∧ Below w.heap.size w w' := by
 have hlw : lw [UInt32.ofNat (n % 4294967296), UInt32.ofNat (n / 4294967296)] = n := by
  rw [lw_cons, lw_one, u32n, u32n]
  omega
 have hl2 : (ld (lw [UInt32.ofNat (n % 4294967296), UInt32.ofNat (n / 4294967296)])).length ≤ 2 := by
  rw [hlw];exact ld_len (by omega)
 have HLW := Lib.hid hlw;clear hlw
 go_enter Tryd.func55, Tryd.ntmps55
 go_upto_region 3 with fail;refine lx_plain [none, none, none, none, none, some (Dg [UInt32.ofNat (n % 4294967296), UInt32.ofNat (n / 4294967296)]), some (Lm (lw [UInt32.ofNat (n % 4294967296), UInt32.ofNat (n / 4294967296)]))] (lasts_none (lasts_none (lasts_none (lasts_none (lasts_none (lasts_some (Dg.lasts _) (lasts_some (Dg.lasts _) (lasts_nil)))))))) ?_;simp only [iX, Nat.reduceAdd];refine jm (.int .i64 (n : Int)) ?_;refine jv (.int .u32 ((n % 4294967296 : Nat) : Int)) (exec_cnv _ _ .i64 .u32 Tryd.underlying3 Tryd.underlying111 _ (by rfl) (n : Int) ((n % 4294967296 : Nat) : Int) (by rfl) (by rw [IntKind.wrap_u32]; omega)) ?_;refine jm (.int .i64 (n : Int)) ?_;refine jv (.int .i64 ((n / 4294967296 : Nat) : Int)) (exec_shr _ _ _ _ (by rfl) .i64 .u64 (n : Int) ((n / 4294967296 : Nat) : Int) 32 (by rfl) (by rfl) rfl (by decide) (by omega)) ?_;refine jv (.int .u32 ((n / 4294967296 : Nat) : Int)) (exec_cnv _ _ .i64 .u32 Tryd.underlying3 Tryd.underlying111 _ (by rfl) ((n / 4294967296 : Nat) : Int) ((n / 4294967296 : Nat) : Int) (by rfl) (by rw [w32 (by omega) (by omega)])) ?_;refine lx_new (by rfl) (fun X hX hF => ⟨_, _, exec_bs2 _ _ (by rfl) _ _ (by rfl) (by rfl) X, Dg.new2 X _ _ (UInt32.ofNat (n % 4294967296)) (UInt32.ofNat (n / 4294967296)) (by rw [u32n]; omega) (by rw [u32n]; omega), since_alloc X _⟩) ?_;intro v11;simp only [pX];refine jk (fun X hX hF => trimD _ v11 X (hF _ _ List.mem_cons_self rfl) (by first | omega | (simp only [List.length_cons, List.length_nil]; omega))) ?_
 intro v12;refine jc (st (be (lw [UInt32.ofNat (n % 4294967296), UInt32.ofNat (n / 4294967296)]))) (fun X hX hF => textL v12 _ X (hF _ _ List.mem_cons_self rfl) (by omega)) ?_;refine jm (st (be (lw [UInt32.ofNat (n % 4294967296), UInt32.ofNat (n / 4294967296)]))) ?_;refine jm (.int .i64 0) ?_;refine lx_nil ?_;intro X1 hX1 hF;have hv11 := hF _ _ (List.mem_cons_of_mem _ List.mem_cons_self);have hv12 := hF _ _ List.mem_cons_self;have hb : Below w.heap.size w X1 := hX1;clear hF hX1;rw [HLW.out]
 go_wp2
 go_ret2
 exact ⟨rfl, hb⟩
end Go.Proofs.YtffgfkcljcollaaDoor
namespace Go.Proofs.YtffgfkcljcollaaDoor
open Go.RowKit
theorem load_f (b k : Nat) (X : World) (v : Value) (h : X.cell? ⟨b, k, none⟩ = some v) : (loadVar 108 ⟨b, k, none⟩).run Tryd.prog X = .ok v X := by
 go_simp
theorem euclidC (g : Nat) (y0 : Nat) : ∀ (v v' : Value) (x0 : Nat) (w : World), Lm x0 v w → Lm y0 v' w → (ld x0).length ≤ 8388608 → (ld y0).length ≤ 8388608 → g < w.heap.size → w.cell? ⟨g, 0, none⟩ = some (.func (.func 66) #[] #[.pointer (some ⟨g, 0, none⟩)]) →
  Calls Tryd.prog 66 #[v, v', .pointer (some ⟨g, 0, none⟩)] w fun e w' => ∃ u, e = .returned u ∧ Lm (Nat.gcd x0 y0) u w' ∧ Since w w' := by
 induction y0 using Nat.strongRecOn with
 | _ y0 ih =>
 intro v v' x0 w hr hr' hx hy hg hc;have ih := Lib.hid ih
 rcases Nat.eq_zero_or_pos y0 with h0 | h0
 ·have l0 := ld_none h0
  have HG : Hid (Nat.gcd x0 y0 = x0) := by show _ = _; rw [h0, Nat.gcd_zero_right]
  clear h0 hc ih;rw [HG.out]
  go_enter Tryd.func66, Tryd.ntmps66
  go_upto_region 1 with fail;refine jp ?_;refine jm (v') ?_;refine jg (.int .i64 ((ld y0).length : Int)) (fun X hX hF => by obtain ⟨A9, c9, h9, _⟩ := ((Dg.lasts _) _ _ _ hr' hX); subst h9; exact exec_lenv Tryd.underlying103 _ (by rfl) A9 _ c9 (by rfl) _ rfl X) ?_;refine jv (.bool true) (exec_eqi _ _ _ _ (by rfl) .i64 ((ld y0).length : Int) 0 (by rfl) (by rfl) true (decide_eq_true (by omega))) ?_;refine jz fun X1 hX1 => ?_;have hr := (Dg.lasts _) _ _ _ hr hX1;have hr' := (Dg.lasts _) _ _ _ hr' hX1;have hb : Below w.heap.size w X1 := hX1;clear hX1;go_upto_region 2 with fail;refine jp ?_;refine jm (v) ?_;refine jm (v) ?_;refine jzb hb fun X2 hX2 hb => ?_;have hr := (Dg.lasts _) _ _ _ hr hX2;have hr' := (Dg.lasts _) _ _ _ hr' hX2;clear hX2
  go_wp2
  go_ret
  exact ⟨_, rfl, hr, hb⟩
 ·have l0 := ld_pos h0
  have hm := Nat.mod_lt x0 h0;have l2 := ld_le (Nat.le_of_lt hm)
  have HG : Hid (Nat.gcd x0 y0 = Nat.gcd y0 (x0 % y0)) := by
   show _ = _
   rw [Nat.gcd_comm, Nat.gcd_rec, Nat.gcd_comm]
  have hc := hc;rw [HG.out];have ih := ih.out
  go_enter Tryd.func66, Tryd.ntmps66
  go_upto_region 1 with fail;refine jp ?_;refine jm (v') ?_;refine jg (.int .i64 ((ld y0).length : Int)) (fun X hX hF => by obtain ⟨A9, c9, h9, _⟩ := ((Dg.lasts _) _ _ _ hr' hX); subst h9; exact exec_lenv Tryd.underlying103 _ (by rfl) A9 _ c9 (by rfl) _ rfl X) ?_;refine jv (.bool false) (exec_eqi _ _ _ _ (by rfl) .i64 ((ld y0).length : Int) 0 (by rfl) (by rfl) false (decide_eq_false (by omega))) ?_;refine jz fun X1 hX1 => ?_;have hr := (Dg.lasts _) _ _ _ hr hX1;have hr' := (Dg.lasts _) _ _ _ hr' hX1;have hc := (Below.cell hX1 (p := ⟨g, 0, none⟩) hg).trans hc;have hg := Nat.lt_of_lt_of_le hg (hX1).size;have hb : Below w.heap.size w X1 := hX1;clear hX1;go_upto_region 3 with fail;refine lx_plain_to 3 [none, none, some (Pr (x0 / y0) (x0 % y0))] (lasts_none (lasts_none (lasts_some (Pr.lasts _ _) (lasts_nil)))) ?_;simp only [its, List.take, List.drop, Nat.zero_add, Nat.reduceAdd];refine jm (v) ?_;refine jm (v') ?_;refine jk (fun X hX hF => byP v v' _ _ X ((Dg.lasts _) _ _ _ hr hX) ((Dg.lasts _) _ _ _ hr' hX) (by omega) (by omega) (by omega)) ?_;intro v15;refine lx_nil ?_;intro X2 hX2 hF;have hr := (Dg.lasts _) _ _ _ hr hX2;have hr' := (Dg.lasts _) _ _ _ hr' hX2;have hv15 := hF _ _ List.mem_cons_self;have hc := (Below.cell hX2 (p := ⟨g, 0, none⟩) hg).trans hc;have hg := Nat.lt_of_lt_of_le hg (hX2).size;have hb := bel_next hb hX2;clear hF hX2;obtain ⟨q0, r0, rfl, hq, hr0⟩ := hv15;go_upto_region 4 with fail;refine lx_plain [none, none, none, some (Lm (Nat.gcd y0 (x0 % y0)))] (lasts_none (lasts_none (lasts_none (lasts_some (Dg.lasts _) (lasts_nil))))) ?_
  simp only [iX, Nat.reduceAdd];refine jg ((.func (.func 66) #[] #[.pointer (some ⟨g, 0, none⟩)])) (fun X hX hF => exec_ld 108 _ (by rfl) g 0 (by rfl) _ X ((Below.cell hX (p := ⟨g, 0, none⟩) hg).trans hc) (fun X u h => load_f g 0 X u h)) ?_;refine jm (v') ?_;refine jm (r0) ?_;refine lx_makef (by rfl) _ _ _ (by rfl) 66 [.pointer (some ⟨g, 0, none⟩)] (by rfl) [v', r0] (by rfl) (fun _ => by go_simp) (fun X hX hF => ih (x0 % y0) hm v' r0 y0 X ((Dg.lasts _) _ _ _ hr' hX) ((Dg.lasts _) _ _ _ hr0 hX) (by omega) (by omega) (Nat.lt_of_lt_of_le hg hX.size) ((Below.cell hX (p := ⟨g, 0, none⟩) hg).trans hc)) ?_;intro v21;simp only [pX];refine jm (v21) ?_;refine lx_nil ?_;intro X3 hX3 hF;have hr := (Dg.lasts _) _ _ _ hr hX3;have hr' := (Dg.lasts _) _ _ _ hr' hX3;have hr0 := (Dg.lasts _) _ _ _ hr0 hX3;have hv21 := hF _ _ List.mem_cons_self;have hc := (Below.cell hX3 (p := ⟨g, 0, none⟩) hg).trans hc;have hg := Nat.lt_of_lt_of_le hg (hX3).size;have hb := bel_next hb hX3;clear hF hX3
  go_wp2
  go_ret
  exact ⟨_, rfl, hv21, hb⟩
end Go.Proofs.YtffgfkcljcollaaDoor
namespace Go.Proofs.YtffgfkcljcollaaDoor
open Go.RowKit
theorem ngcdC (a b : List UInt8) (w : World) (ha : a.length ≤ 4194304) (hb0 : b.length ≤ 4194304) :
  Calls Tryd.prog 54 #[.string ⟨a.toArray⟩, .string ⟨b.toArray⟩] w fun e w' => e = .returned (.string ⟨(be (Nat.gcd (val a) (val b))).toArray⟩) ∧ Below w.heap.size w w' := by
 have la := ld_val a;have lb := ld_val b
 have lg : (ld (Nat.gcd (val a) (val b))).length ≤ 4194304 := by
  rcases Nat.eq_zero_or_pos (val b) with h | h
  ·rw [h, Nat.gcd_zero_right]; omega
  ·exact Nat.le_trans (ld_le (Nat.gcd_le_right _ h)) (by omega)
 go_enter Tryd.func54, Tryd.ntmps54
 go_upto_region 3 with fail;have hc : (w.alloc (.cells #[(.func (.func 66) #[] #[.pointer (some ⟨w.heap.size, 0, none⟩)])] 108)).cell? ⟨w.heap.size, 0, none⟩ = some (.func (.func 66) #[] #[.pointer (some ⟨w.heap.size, 0, none⟩)]) := (Blk.new (w := w) (t := 108) (xs := [(.func (.func 66) #[] #[.pointer (some ⟨w.heap.size, 0, none⟩)])]) rfl).cell (j := 0) (u := (.func (.func 66) #[] #[.pointer (some ⟨w.heap.size, 0, none⟩)])) rfl
 have hg : w.heap.size < (w.alloc (.cells #[(.func (.func 66) #[] #[.pointer (some ⟨w.heap.size, 0, none⟩)])] 108)).heap.size := by simp
 have b1 : Below w.heap.size w (w.alloc (.cells #[(.func (.func 66) #[] #[.pointer (some ⟨w.heap.size, 0, none⟩)])] 108)) := (Below.refl _ _).alloc (Nat.le_refl _) _;generalize w.alloc (.cells #[(.func (.func 66) #[] #[.pointer (some ⟨w.heap.size, 0, none⟩)])] 108) = w1 at hc hg b1 ⊢;refine lx_region [none, none, some (Lm (val a)), none, some (Lm (val b)), some (Lm (Nat.gcd (val a) (val b)))] (by kernel_rfl) (by kernel_rfl) (lasts_none (lasts_none (lasts_some (Dg.lasts _) (lasts_none (lasts_some (Dg.lasts _) (lasts_some (Dg.lasts _) (lasts_nil))))))) ?_;simp only [iX, Nat.reduceAdd];refine jg ((.func (.func 66) #[] #[.pointer (some ⟨w.heap.size, 0, none⟩)])) (fun X hX hF => exec_ld 108 _ (by rfl) w.heap.size 0 (by rfl) _ X ((Below.cell hX (p := ⟨w.heap.size, 0, none⟩) hg).trans hc) (fun X u h => load_f w.heap.size 0 X u h)) ?_;refine jm (st a) ?_;refine jk (fun X hX hF => loadC a X (by omega)) ?_;intro v9;refine jm (st b) ?_;refine jk (fun X hX hF => loadC b X (by omega)) ?_;intro v11;refine lx_makef (by rfl) _ _ _ (by rfl) 66 [.pointer (some ⟨w.heap.size, 0, none⟩)] (by rfl) [v9, v11] (by rfl) (fun _ => by go_simp) (fun X hX hF => euclidC w.heap.size _ v9 v11 _ X (hF _ _ (List.mem_cons_of_mem _ List.mem_cons_self) rfl) (hF _ _ List.mem_cons_self rfl) (by omega) (by omega) (Nat.lt_of_lt_of_le hg hX.size) ((Below.cell hX (p := ⟨w.heap.size, 0, none⟩) hg).trans hc)) ?_;intro v12;simp only [pX];refine jc (st (be (Nat.gcd (val a) (val b)))) (fun X hX hF => textL v12 _ X (hF _ _ List.mem_cons_self rfl) (by omega)) ?_
 refine jm (st (be (Nat.gcd (val a) (val b)))) ?_;refine lx_nil ?_;intro X1 hX1 hF;have hv9 := hF _ _ (List.mem_cons_of_mem _ (List.mem_cons_of_mem _ List.mem_cons_self));have hv11 := hF _ _ (List.mem_cons_of_mem _ List.mem_cons_self);have hv12 := hF _ _ List.mem_cons_self;have hb : Below w1.heap.size w1 X1 := hX1;clear hF hX1
 go_wp2
 go_ret
 exact ⟨rfl, b1.trans (hb.mono b1.size)⟩
end Go.Proofs.YtffgfkcljcollaaDoor
namespace Go.Proofs.YtffgfkcljcollaaDoor
open Go.RowKit
end Go.Proofs.YtffgfkcljcollaaDoor
namespace Go.Proofs.YtffgfkcljcollaaDoor
open Go.RowKit
end Go.Proofs.YtffgfkcljcollaaDoor
