/-
  kernel: reduced, Reduce, Delay.
-/
import Derived.Test.YtcpedbpldgndmaaDoorKa
set_option linter.unusedSimpArgs false
set_option linter.unusedVariables false
set_option maxRecDepth 100000
set_option maxHeartbeats 1600000
namespace Go.Proofs.YtcpedbpldgndmaaDoor
open Go.RowKit
/-- A slice of integers of the call's own. -/
def Km (l : List Int) (B : Nat) (v : Value) (X : World) : Prop := ∃ g, v = .slice (some ⟨g, 0, none⟩) l.length l.length ∧ B ≤ g ∧ l.length ≤ 1073741824 ∧ Blk X g 3 (l.map I64)
theorem Km.lasts (l : List Int) (B : Nat) : Lasts (Km l B) := by
 rintro v X Y ⟨g, h1, h2, h4, h3⟩ hS
 exact ⟨g, h1, h2, h4, h3.bel hS⟩
theorem Km.low {l : List Int} {B C : Nat} {v : Value} {X : World} (h : Km l B v X) (hC : C ≤ B) : Km l C v X := by
 obtain ⟨g, h1, h2, h4, h3⟩ := h;exact ⟨g, h1, by omega, h4, h3⟩
theorem Ks.of_blk {l : List Int} {g : Nat} {X : World} (h3 : Blk X g 3 (l.map I64)) (h4 : l.length ≤ 1073741824) : Ks l (.slice (some ⟨g, 0, none⟩) l.length l.length) X :=
 ⟨_, _, rfl, Rd.of_cl h3.cl h3.lt (by rw [List.length_map]) (Nat.le_refl _) (by unfold maxLen; omega)⟩
theorem Km.ks {l : List Int} {B : Nat} {v : Value} {X : World} (h : Km l B v X) : Ks l v X := by
 obtain ⟨g, rfl, h2, h4, h3⟩ := h;exact Ks.of_blk h3 h4
theorem exec_makeK {f : Operand → Value} {o : Oper} (x y : Operand) (ho : o.op = .makeSlice 22 x y) (n B : Nat) {z : Int} (hx : f x = .int .i64 z) (hy : f y = .int .i64 z) (hz : z = (n : Int)) (hn : n ≤ 1073741824) (X : World) (hB : B ≤ X.heap.size) :
  ∃ v X', (execOp f o).run Tryd.prog X = .ok (.value v) X' ∧ Km (List.replicate n 0) B v X' ∧ Since X X' := by
 subst hz;obtain ⟨i, hi, hz0, hsz, hby⟩ := info_parts (show (Tryd.prog.info? 3).map (fun i => (i.zero, i.size, i.bytes)) = some (some (.int .i64 0), 1, 8) by kernel_rfl);have hr := run_make (P := Tryd.prog) X 22 3 i (.int .i64 0) Tryd.underlying22 hi hz0 .i64 .i64 n n (by omega) (by omega) (by rw [hby]; omega) (by omega);simp only [Int.toNat_natCast, hsz, Nat.mul_one] at hr;refine ⟨_, X.alloc (.cells (madeCells (Value.int IntKind.i64 0).cells n) 3), ?_, ⟨X.heap.size, by rw [List.length_replicate], hB, by rw [List.length_replicate]; exact hn, ?_⟩, (Below.refl X.heap.size X).alloc (Nat.le_refl _) _⟩
 ·unfold execOp
  simp only [ho, hx, hy, Sem.run_bind, hr, Result.andThen_ok, Sem.run_pure]
 ·refine Blk.new ?_
  apply Array.ext
  ·simp [size_madeCells, Value.cells]
  ·intro j h1 h2
   simp [madeCells, Value.cells, Nat.mod_one]
theorem exec_sti {f : Operand → Value} {o : Oper} (x y : Operand) (ho : o.op = .store 3 x y) (g j : Nat) {n : Int} (hx : f x = .pointer (some ⟨g, j, none⟩)) (hy : f y = .int .i64 n) (u : Value) (X : World) (hc : X.cell? ⟨g, j, none⟩ = some u) (hf : X.frozen? ⟨g, j, none⟩ = false) :
  (execOp f o).run Tryd.prog X = .ok .skip (X.setCell ⟨g, j, none⟩ (.int .i64 n)) := by
 unfold execOp
 simp only [ho, hx, hy]
 go_simp
theorem wt_set {l : List Int} {k j : Nat} {x : Int} (hk : k < l.length) : wt (l.set k x) j = if j = k then x else wt l j := by
 unfold wt
 rw [List.getD_eq_getElem?_getD, List.getD_eq_getElem?_getD, List.getElem?_set]
 by_cases h : k = j
 ·subst h
  rw [if_pos rfl, if_pos rfl, if_pos hk]
  rfl
 ·rw [if_neg h, if_neg (fun h9 => h h9.symm)]
theorem blk_wt {l : List Int} {g k : Nat} {X : World} (h : Blk X g 3 (l.map I64)) (hk : k < l.length) : X.cell? ⟨g, k, none⟩ = some (.int .i64 (wt l k)) := by
 refine h.cell ?_;rw [List.getElem?_map, List.getElem?_eq_getElem hk, wt_in hk]
 rfl
theorem gk_le {l : List Int} (h : Kok l) : ∀ k, gk l k ≤ 999999999999999
 | 0 => Nat.zero_le _
 | k + 1 => by
  rw [gk_succ]
  rcases Nat.eq_zero_or_pos (gk l k) with h1 | h1
  ·rw [h1, Nat.gcd_zero_left]
   have h2 := h.wle k;have h3 := h.le
   unfold far at h3
   omega
  ·have h2 := gk_le h k
   have h3 := Nat.gcd_le_left (wt l k).toNat h1
   omega
theorem rdcC (v : Value) (l : List Int) (w : World) (hv : Ks l v w) (hk : Kok l) : Calls Tryd.prog 32 #[.agg #[v]] w fun e w' => ∃ v', e = .returned (.agg #[v']) ∧ Km (red l) w.heap.size v' w' ∧ Since w w' := by
 obtain ⟨A, n, c, rfl, hln, hn1, hr⟩ := hv.at;clear hv
 have HRX : Hid (∀ X, Since w X → Rd X 1 (.slice A n c) n (l.map I64)) := fun X h => hr.below h
 have HLN := Lib.hid hln;have HK := Lib.hid hk;clear hk;clear hr
 go_enter Tryd.func32, Tryd.ntmps32
 go_upto_region 1 with fail;obtain ⟨W0, hW0, hB0, hB1, hb⟩ := start2 w 24 24 [.slice A n c] [.slice none 0 0];rw [← hW0];clear hW0;refine jp ?_;refine jm (.int .i64 0) ?_;refine jm (.int .i64 0) ?_;refine jzb hb fun X1 hX1 hb => ?_;replace hB0 := hB0.bel hX1;replace hB1 := hB1.bel hX1;clear hX1;go_upto_region 2 with fail;refine jp ?_;refine jn (.pointer (some ⟨w.heap.size, 0, none⟩)) ?_;refine jf (.slice A n c) hB0 0 load_ints ?_;refine jv (.int .i64 (n : Int)) (exec_lenv Tryd.underlying22 _ (by rfl) A n c (by rfl) _ rfl) ?_;refine jm (.int .i64 0) ?_;refine jzb hb fun X2 hX2 hb => ?_;replace hB0 := hB0.bel hX2;replace hB1 := hB1.bel hX2;clear hX2
 have hn4 : n ≤ 400 := by rw [← HLN.out]; exact HK.out.len2
 go_wp2
 go_loopw [3, 4, 12] (fun dv mv kv wr => ∃ (k d m : Nat), k ≤ n ∧ dv = .int .i64 (d : Int) ∧ mv = .int .i64 (m : Int) ∧ kv = .int .i64 (k : Int) ∧ Hid (d = gk l k) ∧ Hid (m = lk l k) ∧ Blk wr w.heap.size 24 [.slice A n c] ∧ Blk wr (w.heap.size + 1) 24 [.slice none 0 0] ∧ Below w.heap.size w wr) (fun _ _ kv _ => n - (intOf kv).toNat)
 case atStart => exact ⟨0, 0, 0, by omega, rfl, rfl, rfl, rfl, rfl, hB0, hB1, hb⟩
 case round =>
  clear hB0 hB1 hb;obtain ⟨k, d, m, hk, rfl, rfl, rfl, HD, HM, hB0, hB1, hb⟩ := hrel
  rcases Nat.lt_or_ge k n with hlt | hlt
  ·obtain ⟨b, off, rfl, hbb, hcx⟩ := wtIn (HRX.out _ hb) HLN.out hlt
   obtain ⟨x, hx9⟩ : ∃ x : Nat, (x : Int) = wt l k := ⟨(wt l k).toNat, Int.toNat_of_nonneg (HK.out.pos k)⟩;have HX := Lib.hid hx9;clear hx9;rw [← HX.out] at hcx
   have hx1 : (x : Int) ≤ 999999999999999 := by
    have h1 := HK.out.wle k;have h2 := HK.out.le
    unfold far at h2
    rw [← HX.out] at h1
    omega
   have hd1 : d ≤ 999999999999999 := by rw [HD.out]; exact gk_le HK.out k
   obtain ⟨d', hd'⟩ : ∃ d', d' = Nat.gcd d x := ⟨_, rfl⟩;have HG := Lib.hid hd'
   have HD2 : Hid (d' = gk l (k + 1)) := by
    show _ = _
    rw [gk_succ, ← HD.out, ← HX.out, Int.toNat_natCast];exact hd'
   clear hd';go_upto_region 3 with fail;refine jp ?_;refine jv (.bool true) (exec_lss _ _ _ _ (by rfl) .i64 (k : Int) (n : Int) (by rfl) (by rfl) true (decide_eq_true (by omega))) ?_;refine jzb hb fun X1 hX1 hb => ?_;replace hB0 := hB0.bel hX1;replace hB1 := hB1.bel hX1;have hcx := hcx.below hX1 hbb;replace hbb := Nat.lt_of_lt_of_le hbb (hX1).size;clear hX1;go_upto_region 4 with fail;refine jp ?_;refine jm (.int .i64 (k : Int)) ?_;refine jv (.pointer (some ⟨b, off + k * 1, none⟩)) (exec_ixv Tryd.underlying22 info_i1 _ _ (by rfl) b (off) n c k (by omega) (by rfl) (by rfl) rfl) ?_;refine jg (.int .i64 (x : Int)) (fun X hX hF => exec_ld 3 _ (by rfl) b (off + k * 1) (by rfl) _ X ((hcx.below hX hbb) 0 _ rfl) (fun X u h => load_int b (off + k * 1) X u h)) ?_;refine jm (.int .i64 (k : Int)) ?_;refine jm (.int .i64 (x : Int)) ?_;refine jzb hb fun X2 hX2 hb => ?_;replace hB0 := hB0.bel hX2;replace hB1 := hB1.bel hX2;have hcx := hcx.below hX2 hbb;replace hbb := Nat.lt_of_lt_of_le hbb (hX2).size;clear hX2;go_upto_region 5 with fail;refine jp ?_;refine jm (.int .i64 (d : Int)) ?_;refine jm (.int .i64 (x : Int)) ?_;refine jc (.int .i64 (d' : Int)) (fun X hX hF => mo (dvC d x X (by omega) (by omega)) (by rw [HG.out])) ?_;refine jm (.int .i64 (d' : Int)) ?_;refine jzb hb fun X3 hX3 hb => ?_;replace hB0 := hB0.bel hX3;replace hB1 := hB1.bel hX3;clear hX3
   rcases Nat.eq_zero_or_pos x with hx | hx
   ·have HM2 : Hid (m = lk l (k + 1)) := by
     show _ = _
     unfold lk
     rw [if_neg (by rw [← HX.out]; omega)];exact HM.out
    go_upto_region 6 with fail;refine jp ?_;refine jm (.int .i64 (x : Int)) ?_;refine jv (.bool false) (exec_gtr _ _ _ _ (by rfl) .i64 (x : Int) 0 (by rfl) (by rfl) false (decide_eq_false (by omega))) ?_;refine jzb hb fun X4 hX4 hb => ?_;replace hB0 := hB0.bel hX4;replace hB1 := hB1.bel hX4;clear hX4;go_upto_region 8 with fail;refine jp ?_;refine jv (.int .i64 ((k + 1 : Nat) : Int)) (exec_add _ _ _ _ (by rfl) (k : Int) 1 ((k + 1 : Nat) : Int) (by rfl) (by rfl) (by omega) (by omega) (by omega)) ?_;refine jm (.int .i64 ((k + 1 : Nat) : Int)) ?_;refine jzb hb fun X5 hX5 hb => ?_;replace hB0 := hB0.bel hX5;replace hB1 := hB1.bel hX5;clear hX5
    go_wp2
    go_roundw
    case rel => exact ⟨k + 1, d', m, by omega, rfl, rfl, rfl, HD2, HM2, hB0, hB1, hb⟩
    case measure => simp [intOf]; omega
   ·have HM2 : Hid (k + 1 = lk l (k + 1)) := by
     show _ = _
     unfold lk
     rw [if_pos (by rw [← HX.out]; omega)]
    go_upto_region 6 with fail;refine jp ?_;refine jm (.int .i64 (x : Int)) ?_;refine jv (.bool true) (exec_gtr _ _ _ _ (by rfl) .i64 (x : Int) 0 (by rfl) (by rfl) true (decide_eq_true (by omega))) ?_;refine jzb hb fun X4 hX4 hb => ?_;replace hB0 := hB0.bel hX4;replace hB1 := hB1.bel hX4;clear hX4;go_upto_region 7 with fail;refine jp ?_;refine jm (.int .i64 (k : Int)) ?_;refine jv (.int .i64 ((k + 1 : Nat) : Int)) (exec_add _ _ _ _ (by rfl) (k : Int) 1 ((k + 1 : Nat) : Int) (by rfl) (by rfl) (by omega) (by omega) (by omega)) ?_;refine jm (.int .i64 ((k + 1 : Nat) : Int)) ?_;refine jzb hb fun X5 hX5 hb => ?_;replace hB0 := hB0.bel hX5;replace hB1 := hB1.bel hX5;clear hX5;go_upto_region 8 with fail;refine jp ?_;refine jv (.int .i64 ((k + 1 : Nat) : Int)) (exec_add _ _ _ _ (by rfl) (k : Int) 1 ((k + 1 : Nat) : Int) (by rfl) (by rfl) (by omega) (by omega) (by omega)) ?_;refine jm (.int .i64 ((k + 1 : Nat) : Int)) ?_;refine jzb hb fun X6 hX6 hb => ?_;replace hB0 := hB0.bel hX6;replace hB1 := hB1.bel hX6;clear hX6
    go_wp2
    go_roundw
    case rel => exact ⟨k + 1, d', k + 1, by omega, rfl, rfl, rfl, HD2, HM2, hB0, hB1, hb⟩
    case measure => simp [intOf]; omega
  ·obtain rfl : k = n := by omega
   have HDG : Hid (d = gg l) := by
    show _ = _
    unfold gg
    rw [HLN.out]; exact HD.out
   have HML : Hid (m = ll l) := by
    show _ = _
    unfold ll
    rw [HLN.out]; exact HM.out
   have hm1 : m ≤ k := by
    rw [HML.out, ← HLN.out]; exact ll_le l
   have hd0 : 0 < d := by rw [HDG.out]; exact HK.out.gg_pos
   have hd1 : d ≤ 999999999999999 := by rw [HD.out]; exact gk_le HK.out k
   go_upto_region 3 with fail;refine jp ?_;refine jv (.bool false) (exec_lss _ _ _ _ (by rfl) .i64 (k : Int) (k : Int) (by rfl) (by rfl) false (decide_eq_false (by omega))) ?_;refine jzb hb fun X1 hX1 hb => ?_;replace hB0 := hB0.bel hX1;replace hB1 := hB1.bel hX1;clear hX1;go_upto_region 9 with fail;refine lx_plain [none, some (Km (List.replicate m 0) (w.heap.size + 2))] (lasts_none (lasts_some (Km.lasts _ _) (lasts_nil))) ?_;simp only [iX, Nat.reduceAdd];refine jm (.int .i64 (m : Int)) ?_;refine lx_new (by rfl) (fun X hX hF => exec_makeK _ _ (by rfl) m (w.heap.size + 2) (by rfl) (by rfl) rfl (by omega) X (by have := (hB1.bel hX).lt; omega)) ?_;intro v26;simp only [pX];refine jm (v26) ?_;refine lx_nil ?_;intro X2 hX2 hF;have hv26 := hF _ _ List.mem_cons_self;replace hB0 := hB0.bel hX2;replace hB1 := hB1.bel hX2;have hb := bel_next hb hX2;clear hF hX2;obtain ⟨g, rfl, hg, _, hBg⟩ := hv26;rw [List.length_replicate];go_upto_region 10 with fail;refine jp ?_;refine jm (.slice (some ⟨g, 0, none⟩) m m) ?_;refine jv (.int .i64 (m : Int)) (exec_lenv Tryd.underlying22 _ (by rfl) (some ⟨g, 0, none⟩) m m (by rfl) _ rfl) ?_;refine jm (.int .i64 0) ?_;refine jzb hb fun X3 hX3 hb => ?_;replace hB0 := hB0.bel hX3;replace hB1 := hB1.bel hX3;replace hBg := hBg.bel hX3;clear hX3
   go_wp2
   go_loopw [29] (fun iv w2 => ∃ (i : Nat) (O : List Int), i ≤ m ∧ iv = .int .i64 (i : Int) ∧ Hid (O.length = m) ∧ Hid (∀ j, j < i → wt O j = wt l j / (d : Int)) ∧ Blk w2 g 3 (O.map I64) ∧ Blk w2 w.heap.size 24 [.slice A k c] ∧ Blk w2 (w.heap.size + 1) 24 [.slice none 0 0] ∧ Below w.heap.size w w2) (fun iv _ => m - (intOf iv).toNat)
   case atStart => exact ⟨0, List.replicate m 0, by omega, rfl, List.length_replicate, fun j hj => by omega, hBg, hB0, hB1, hb⟩
   case round =>
    clear hB0 hB1 hb hBg;obtain ⟨i, O, hi, rfl, HO, HW, hBg, hB0, hB1, hb⟩ := hrel
    rcases Nat.lt_or_ge i m with hlt2 | hlt2
    ·have hik : i < k := by omega
     obtain ⟨b, off, rfl, hbb, hcx⟩ := wtIn (HRX.out _ hb) HLN.out hik;obtain ⟨x, hx9⟩ : ∃ x, x = wt l i := ⟨_, rfl⟩;have HX := Lib.hid hx9;clear hx9;rw [← HX.out] at hcx
     have hx0 : 0 ≤ x := by rw [HX.out]; exact HK.out.pos i
     have hx1 : x ≤ 999999999999999 := by
      have h1 := HK.out.wle i;have h2 := HK.out.le
      unfold far at h2
      rw [← HX.out] at h1
      omega
     obtain ⟨y, hy9⟩ : ∃ y, x / (d : Int) = y := ⟨_, rfl⟩
     have hy0 : 0 ≤ y := by rw [← hy9]; exact Int.ediv_nonneg hx0 (by omega)
     have hy1 : y ≤ x := by rw [← hy9]; exact Int.ediv_le_self _ hx0
     go_upto_region 11 with fail;refine jp ?_;refine jv (.bool true) (exec_lss _ _ _ _ (by rfl) .i64 (i : Int) (m : Int) (by rfl) (by rfl) true (decide_eq_true (by omega))) ?_;refine jzb hb fun X1 hX1 hb => ?_;replace hB0 := hB0.bel hX1;replace hB1 := hB1.bel hX1;replace hBg := hBg.bel hX1;have hcx := hcx.below hX1 hbb;replace hbb := Nat.lt_of_lt_of_le hbb (hX1).size;clear hX1;go_upto_region 12 with fail;refine jp ?_;refine jm (.int .i64 (i : Int)) ?_;refine jm (.int .i64 (i : Int)) ?_;refine jzb hb fun X2 hX2 hb => ?_;replace hB0 := hB0.bel hX2;replace hB1 := hB1.bel hX2;replace hBg := hBg.bel hX2;have hcx := hcx.below hX2 hbb;replace hbb := Nat.lt_of_lt_of_le hbb (hX2).size;clear hX2;go_upto_region 13 with fail;refine jq 10 ?_;refine jm (.slice (some ⟨g, 0, none⟩) m m) ?_;refine jm (.int .i64 (i : Int)) ?_;refine jn (.pointer (some ⟨w.heap.size, 0, none⟩)) ?_;refine jf (.slice (some ⟨b, off, none⟩) k c) hB0 0 load_ints ?_;refine jm (.int .i64 (i : Int)) ?_;refine jv (.pointer (some ⟨b, off + i * 1, none⟩)) (exec_ixv Tryd.underlying22 info_i1 _ _ (by rfl) b (off) k c i (by omega) (by rfl) (by rfl) rfl) ?_;refine jg (.int .i64 x) (fun X hX hF => exec_ld 3 _ (by rfl) b (off + i * 1) (by rfl) _ X ((hcx.below hX hbb) 0 _ rfl) (fun X u h => load_int b (off + i * 1) X u h)) ?_;refine jm (.int .i64 (d : Int)) ?_;refine jv (.int .i64 y) (exec_quo _ _ _ _ (by rfl) .i64 x (d : Int) y (by rfl) (by rfl) (by omega) (by omega) hy9 (IntWalk.i64_in _ (by omega))) ?_;refine jv (.pointer (some ⟨g, i, none⟩)) (exec_ix0 Tryd.underlying22 info_i1 _ _ (by rfl) g m m i (by omega) (by rfl) (by rfl) (by rfl)) ?_
     refine jzb hb fun X3 hX3 hb => ?_;replace hB0 := hB0.bel hX3;replace hB1 := hB1.bel hX3;replace hBg := hBg.bel hX3;have hcx := hcx.below hX3 hbb;replace hbb := Nat.lt_of_lt_of_le hbb (hX3).size;clear hX3;refine op_store1 rfl g i 3 _ hBg (.int .i64 y) (by rw [List.length_map, HO.out]; exact hlt2) (fun X u h1 h2 => exec_sti _ _ (by rfl) _ _ (by rfl) (by rfl) u X h1 h2) ?_;intro w3 hR5 hO5 hB5;have hb := hB5 _ _ hb (by omega);have hB0 := hO5 _ _ _ (by omega) hB0;have hB1 := hO5 _ _ _ (by omega) hB1;rw [← List.map_set (f := I64)] at hR5;have hBg := hR5;clear hO5 hB5 hR5
     have HO2 : Hid ((O.set i y).length = m) := by
      show _ = _
      rw [List.length_set]; exact HO.out
     have HW2 : Hid (∀ j, j < i + 1 → wt (O.set i y) j = wt l j / (d : Int)) := fun j hj => by
      rw [wt_set (by rw [HO.out]; exact hlt2)]
      split
      ·rename_i h9
       rw [h9, ← HX.out, hy9]
      ·exact HW.out j (by omega)
     go_upto_region 14 with fail;refine jp ?_;refine jv (.int .i64 ((i + 1 : Nat) : Int)) (exec_add _ _ _ _ (by rfl) (i : Int) 1 ((i + 1 : Nat) : Int) (by rfl) (by rfl) (by omega) (by omega) (by omega)) ?_;refine jm (.int .i64 ((i + 1 : Nat) : Int)) ?_;refine jzb hb fun X4 hX4 hb => ?_;replace hB0 := hB0.bel hX4;replace hB1 := hB1.bel hX4;replace hBg := hBg.bel hX4;clear hX4
     go_wp2
     go_roundw
     case rel => exact ⟨i + 1, O.set i y, by omega, rfl, HO2, HW2, hBg, hB0, hB1, hb⟩
     case measure => simp [intOf]; omega
    ·obtain rfl : i = m := by omega
     have HE : Hid (O = red l) := by
      show _ = _
      refine wt_ext (by rw [HO.out, red_len]; exact HML.out) fun j hj => ?_;rw [HO.out] at hj;rw [HW.out j hj]
      unfold red
      rw [wt_range _ (by rw [← HML.out]; exact hj), HDG.out]
     rw [HE.out] at hBg
     have HRL : Hid ((red l).length = i) := by
      show _ = _
      rw [red_len]; exact HML.out.symm
     go_upto_region 11 with fail;refine jp ?_;refine jv (.bool false) (exec_lss _ _ _ _ (by rfl) .i64 (i : Int) (i : Int) (by rfl) (by rfl) false (decide_eq_false (by omega))) ?_;refine jzb hb fun X1 hX1 hb => ?_;replace hB0 := hB0.bel hX1;replace hB1 := hB1.bel hX1;replace hBg := hBg.bel hX1;clear hX1;go_upto_region 15 with fail;refine jq 2 ?_;refine jm (.slice (some ⟨g, 0, none⟩) i i) ?_;refine jn (.agg #[.slice (some ⟨g, 0, none⟩) i i]) ?_;refine jzb hb fun X2 hX2 hb => ?_;replace hB0 := hB0.bel hX2;replace hB1 := hB1.bel hX2;replace hBg := hBg.bel hX2;clear hX2;refine osb 24 2 44 (w.heap.size + 1) 24 hB1 [.slice (some ⟨g, 0, none⟩) i i] info_kn ?_;intro w9 hR9 hO9 hB9 hs9;have hb9 := hB9 _ _ hb (by omega);have hB0 := hO9 _ _ _ (by omega) hB0;have hBg := hO9 _ _ _ (by omega) hBg;clear hO9 hB9
     go_wp2
     refine post_cell rfl rfl (by rfl) Tryd.underlying24 rfl hR9 info_kn ⟨_, rfl, ⟨g, by rw [HRL.out], by omega, by rw [HRL.out]; omega, hBg⟩, hb9⟩
theorem rdu1 (v : Value) (l : List Int) (w : World) (hv : Ks l v w) (HK : Hid (Kok l)) : Calls Tryd.prog 12 #[.agg #[v]] w fun e w' => ∃ v', e = .returned (.tuple #[.agg #[v'], .int .i64 0]) ∧ Km (red l) w.heap.size v' w' ∧ Since w w' := by
 have HV : Hid (∀ X, Since w X → Ks l v X) := fun X h => Ks.lasts l _ _ _ hv h
 clear hv;have HC : Hid (kcE l = 0) := kcE_ok.2 HK.out
 go_enter Tryd.func12, Tryd.ntmps12
 go_upto_region 1 with fail;obtain ⟨W0, hW0, hB0, hB1, hb⟩ := start2 w 24 24 [v] [.slice none 0 0];rw [← hW0];clear hW0;refine jp ?_;refine ja hB0 Tryd.underlying24 (by rfl) info_kn ?_;refine jc (.int .i64 0) (fun X hX hF => mo (kchC _ l X (HV.out X (Since.next hb hX))) (by rw [HC.out])) ?_;refine jm (.int .i64 0) ?_;refine jzb hb fun X1 hX1 hb => ?_;replace hB0 := hB0.bel hX1;replace hB1 := hB1.bel hX1;clear hX1;go_upto_region 2 with fail;refine jp ?_;refine jm (.int .i64 0) ?_;refine jv (.bool false) (exec_nei _ _ _ _ (by rfl) .i64 0 0 (by rfl) (by rfl) false (by rw [decide_eq_true (by omega)]; rfl)) ?_;refine jzb hb fun X2 hX2 hb => ?_;replace hB0 := hB0.bel hX2;replace hB1 := hB1.bel hX2;clear hX2;go_upto_region 4 with fail;refine lx_plain_to 2 [none, some (fun v X => ∃ v', v = .agg #[v'] ∧ Km (red l) (w.heap.size + 2) v' X)] (lasts_none (lasts_some ((fun v X Y ⟨v', h1, h2⟩ hS => ⟨v', h1, Km.lasts _ _ _ _ _ h2 hS⟩)) (lasts_nil))) ?_;simp only [its, List.take, List.drop, Nat.zero_add, Nat.reduceAdd];refine ja hB0 Tryd.underlying24 (by rfl) info_kn ?_;refine jk (fun X hX hF => (rdcC _ l X (HV.out X (Since.next hb hX)) HK.out).mono fun e X' ⟨v', h1, h2, h3⟩ => ⟨_, h1, ⟨v', rfl, h2.low (by have := (hB1.bel hX).lt; omega)⟩, h3⟩) ?_;intro v12;refine lx_nil ?_;intro X3 hX3 hF;have hv12 := hF _ _ List.mem_cons_self;replace hB0 := hB0.bel hX3;replace hB1 := hB1.bel hX3;have hb := bel_next hb hX3;clear hF hX3;obtain ⟨v', rfl, g, rfl, hg, hgl, hBg⟩ := hv12;refine osb 24 2 12 (w.heap.size + 1) 24 hB1 [.slice (some ⟨g, 0, none⟩) (red l).length (red l).length] info_kn ?_
 intro w9 hR9 hO9 hB9 hs9;have hb9 := hB9 _ _ hb (by omega);have hB0 := hO9 _ _ _ (by omega) hB0;have hBg := hO9 _ _ _ (by omega) hBg;clear hO9 hB9
 go_wp2
 refine post_cell2 (v := .int .i64 0) rfl rfl (by rfl) (by rfl) Tryd.underlying24 rfl hR9 info_kn ⟨_, rfl, ⟨g, rfl, by omega, hgl, hBg⟩, hb9⟩
/-- The kernel of a travel time. -/
def dly (t : Nat) : List Int := (List.replicate (t + 1) 0).set t 1
theorem dly_len (t : Nat) : (dly t).length = t + 1 := by
 unfold dly
 rw [List.length_set, List.length_replicate]
theorem dly2 (t : Nat) (w : World) (h : t < 400) : Calls Tryd.prog 11 #[.int .i64 (t : Int)] w fun e w' => ∃ v', e = .returned (.tuple #[.agg #[v'], .int .i64 0]) ∧ Km (dly t) w.heap.size v' w' ∧ Since w w' := by
 go_enter Tryd.func11, Tryd.ntmps11
 go_upto_region 1 with fail;obtain ⟨W0, hW0, hB0, hb⟩ := start1 w 24 [.slice none 0 0];rw [← hW0];clear hW0;refine jp ?_;refine jm (.int .i64 (t : Int)) ?_;refine jv (.bool false) (exec_lss _ _ _ _ (by rfl) .i64 (t : Int) 0 (by rfl) (by rfl) false (decide_eq_false (by omega))) ?_;refine jm (.bool false) ?_;refine jm (.int .i64 (t : Int)) ?_;refine jv (.bool false) (exec_geq _ _ _ _ (by rfl) .i64 (t : Int) 400 (by rfl) (by rfl) false (decide_eq_false (by omega))) ?_;refine jm (.bool false) ?_;refine jzb hb fun X1 hX1 hb => ?_;replace hB0 := hB0.bel hX1;clear hX1;go_upto_region 3 with fail;refine lx_plain [none, none, some (Km (List.replicate (t + 1) 0) (w.heap.size + 1))] (lasts_none (lasts_none (lasts_some (Km.lasts _ _) (lasts_nil)))) ?_;simp only [iX, Nat.reduceAdd];refine jm (.int .i64 (t : Int)) ?_;refine jv (.int .i64 ((t + 1 : Nat) : Int)) (exec_add _ _ _ _ (by rfl) (t : Int) 1 ((t + 1 : Nat) : Int) (by rfl) (by rfl) (by omega) (by omega) (by omega)) ?_;refine lx_new (by rfl) (fun X hX hF => exec_makeK _ _ (by rfl) (t + 1) (w.heap.size + 1) (by rfl) (by rfl) rfl (by omega) X (hB0.bel hX).lt) ?_;intro v14;simp only [pX];refine jm (v14) ?_;refine lx_nil ?_;intro X2 hX2 hF;have hv14 := hF _ _ List.mem_cons_self;replace hB0 := hB0.bel hX2;have hb := bel_next hb hX2;clear hF hX2;obtain ⟨g, rfl, hg, _, hBg⟩ := hv14;rw [List.length_replicate];go_upto_region 4 with fail;refine jq 3 ?_;refine jm (.slice (some ⟨g, 0, none⟩) (t + 1) (t + 1)) ?_;refine jm (.int .i64 (t : Int)) ?_;refine jv (.pointer (some ⟨g, t, none⟩)) (exec_ix0 Tryd.underlying22 info_i1 _ _ (by rfl) g (t + 1) (t + 1) t (by omega) (by rfl) (by rfl) (by rfl)) ?_
 refine jzb hb fun X3 hX3 hb => ?_;replace hB0 := hB0.bel hX3;replace hBg := hBg.bel hX3;clear hX3;refine op_store1 rfl g t 3 _ hBg (.int .i64 1) (by rw [List.length_map, List.length_replicate]; omega) (fun X u h1 h2 => exec_sti _ _ (by rfl) _ _ (by rfl) (by rfl) u X h1 h2) ?_;intro w3 hR5 hO5 hB5;have hb := hB5 _ _ hb (by omega);have hB0 := hO5 _ _ _ (by omega) hB0
 have hBg : Blk w3 g 3 ((dly t).map I64) := by
  have h9 := hR5;rw [show (Value.int IntKind.i64 1) = I64 1 from rfl, ← List.map_set] at h9;exact h9
 have HLD := Lib.hid (dly_len t);clear hO5 hB5 hR5;go_upto_region 5 with fail;refine jq 2 ?_;refine jm (.slice (some ⟨g, 0, none⟩) (t + 1) (t + 1)) ?_;refine jn (.agg #[.slice (some ⟨g, 0, none⟩) (t + 1) (t + 1)]) ?_;refine jzb hb fun X4 hX4 hb => ?_;replace hB0 := hB0.bel hX4;replace hBg := hBg.bel hX4;clear hX4;refine osb 24 2 19 w.heap.size 24 hB0 [.slice (some ⟨g, 0, none⟩) (t + 1) (t + 1)] info_kn ?_;intro w9 hR9 hO9 hB9 hs9;have hb9 := hB9 _ _ hb (by omega);have hBg := hO9 _ _ _ (by omega) hBg;clear hO9 hB9
 go_wp2
 refine post_cell2 (v := .int .i64 0) rfl rfl (by rfl) (by rfl) Tryd.underlying24 rfl hR9 info_kn ⟨_, rfl, ⟨g, by rw [HLD.out], by omega, by rw [HLD.out]; omega, hBg⟩, hb9⟩
end Go.Proofs.YtcpedbpldgndmaaDoor
