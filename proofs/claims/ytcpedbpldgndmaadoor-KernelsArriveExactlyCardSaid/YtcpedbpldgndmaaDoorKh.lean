/-
  kernel: ticks.
-/
import Derived.Test.YtcpedbpldgndmaaDoorKg
import Derived.Test.YtcpedbpldgndmaaDoorPl31c
import Derived.Test.YtcpedbpldgndmaaDoorLar
set_option linter.unusedSimpArgs false
set_option linter.unusedVariables false
set_option maxRecDepth 100000
set_option maxHeartbeats 1600000
namespace Go.Proofs.YtcpedbpldgndmaaDoor
open Go.RowKit
theorem info_tt : (Tryd.prog.info? 55).map (·.size) = some 2 := by kernel_rfl
theorem info_wd : (Tryd.prog.info? 60).map (·.size) = some 5 := by kernel_rfl
theorem load_wds (b k : Nat) (X : World) (v : Value) (h : X.cell? ⟨b, k, none⟩ = some v) : (loadVar 56 ⟨b, k, none⟩).run Tryd.prog X = .ok v X := by
 go_simp
/-- The iterator over the ticks. -/
def Tki (v : Value) (f u : Nat) (B : Nat) (vf : Value) (X : World) : Prop := ∃ g1 g2, vf = .func (.func 59) #[] #[.pointer (some ⟨g1, 0, none⟩), .pointer (some ⟨g2, 0, none⟩)] ∧ B ≤ g1 ∧ B ≤ g2 ∧ Blk X g1 24 [v] ∧ Blk X g2 55 [.int .i64 (f : Int), .int .i64 (u : Int)]
theorem Tki.lasts (v : Value) (f u B : Nat) : Lasts (Tki v f u B) := by
 rintro vf X Y ⟨g1, g2, h1, h2, h3, h4, h5⟩ hS
 exact ⟨g1, g2, h1, h2, h3, h4.bel hS, h5.bel hS⟩
theorem exec_mkf2 {P : Program} {f : Operand → Value} {o : Oper} (F0 : FuncId) (x y : Operand) (ho : o.op = .makeFunc (.func F0) #[] #[x, y]) (r s : Value) (hx : f x = r) (hy : f y = s) (X : World) : (execOp f o).run P X = .ok (.value (.func (.func F0) #[] #[r, s])) X := by
 unfold execOp
 simp only [ho, Instr.makeFunc, List.map_toArray, List.map_cons, List.map_nil, hx, hy, Sem.run_bind, Sem.run_pure, Result.andThen_ok]
theorem tksC (v : Value) (f u : Nat) (w : World) : Calls Tryd.prog 45 #[.agg #[v], .agg #[.int .i64 (f : Int), .int .i64 (u : Int)]] w fun e w' => ∃ vf, e = .returned vf ∧ Tki v f u w.heap.size vf w' ∧ Since w w' := by
 go_enter Tryd.func45, Tryd.ntmps45
 go_upto_region 1 with fail;obtain ⟨W0, hW0, hB0, hB1, hb⟩ := start2 w 24 55 [v] [.int .i64 (f : Int), .int .i64 (u : Int)];rw [← hW0];clear hW0;refine jp ?_;refine jv (.func (.func 59) #[] #[.pointer (some ⟨w.heap.size, 0, none⟩), .pointer (some ⟨(w.heap.size + 1), 0, none⟩)]) (exec_mkf2 59 _ _ (by rfl) _ _ (by rfl) (by rfl)) ?_;refine jm (.func (.func 59) #[] #[.pointer (some ⟨w.heap.size, 0, none⟩), .pointer (some ⟨(w.heap.size + 1), 0, none⟩)]) ?_;refine jzb hb fun X1 hX1 hb => ?_;replace hB0 := hB0.bel hX1;replace hB1 := hB1.bel hX1;clear hX1
 go_wp2
 go_ret
 exact ⟨_, rfl, ⟨w.heap.size, w.heap.size + 1, rfl, Nat.le_refl _, Nat.le_succ _, hB0, hB1⟩, hb⟩
theorem tkIt (v : Value) (l : List Int) (f u : Nat) (T : Nat → Prop) (w : World) (g1 g2 : Nat) (hv : Ks l v w) (HK : Hid (Kok l)) (hfu : f ≤ u) (hu9 : u ≤ 1402560) (hB1 : Blk w g1 24 [v]) (hB2 : Blk w g2 55 [.int .i64 (f : Int), .int .i64 (u : Int)]) (hT : ∀ k, T k → k < w.heap.size) (hT2 : ¬ T g2) : Iter Tryd.prog 59 #[.pointer (some ⟨g1, 0, none⟩), .pointer (some ⟨g2, 0, none⟩)] (fun k => #[.int .i64 ((aS l f + k : Nat) : Int), .int .i64 (aw l f u (aS l f + k))]) (aN l f u) T w := by
 intro y9 J W hW hJ hJ0 hY;have hB1 : Blk W g1 24 [v] := hB1.bel hW;have h1W := hB1.lt;have hB2 : Blk W g2 55 [.int .i64 (f : Int), .int .i64 (u : Int)] := hB2.bel hW;have h2W := hB2.lt;have hv : Ks l v W := Ks.lasts l _ _ _ hv hW
 have hTW : ∀ k, T k → k < W.heap.size := fun k hk => Nat.lt_of_lt_of_le (hT k hk) hW.size
 clear hT hW;obtain ⟨A, n, c, rfl, hln, hn1, hr⟩ := hv.at;clear hv
 have HRX : Hid (∀ X, Since W X → Rd X 1 (.slice A n c) n (l.map I64)) := fun X h => hr.below h
 have HLN := Lib.hid hln
 have hn0 : 1 ≤ n := by rw [← hln]; exact HK.out.len1
 have hn4 : n ≤ 400 := by rw [← hln]; exact HK.out.len2
 clear hr;refine calls_iter Tryd.func59 rfl ?_;simp only [Tryd.ntmps59, List.size_toArray, List.length_cons, List.length_nil, Nat.reduceAdd, Nat.reduceSub, Array.replicate_succ, Array.replicate_zero, List.push_toArray, List.append_toArray, List.nil_append, List.cons_append];have hb : Below W.heap.size W W := Below.refl _ _;go_upto_region 0 with fail;refine jp ?_;refine jn (.pointer (some ⟨g1, 0, none⟩)) ?_;refine jf (.slice A n c) hB1 0 load_ints ?_;refine jv (.int .i64 (n : Int)) (exec_lenv Tryd.underlying22 _ (by rfl) A n c (by rfl) _ rfl) ?_;refine jm (.int .i64 (n : Int)) ?_;refine jzb hb fun X1 hX1 hb => ?_;replace hB1 := hB1.bel hX1;replace hB2 := hB2.bel hX1;clear hX1;go_upto_region 1 with fail;refine lx_plain [none, none, some (Km (List.replicate (n + 1) 0) W.heap.size)] (lasts_none (lasts_none (lasts_some (Km.lasts _ _) (lasts_nil)))) ?_;simp only [iX, Nat.reduceAdd];refine jm (.int .i64 (n : Int)) ?_;refine jv (.int .i64 ((n + 1 : Nat) : Int)) (exec_add _ _ _ _ (by rfl) (n : Int) 1 ((n + 1 : Nat) : Int) (by rfl) (by rfl) (by omega) (by omega) (by omega)) ?_;refine lx_new (by rfl) (fun X hX hF => exec_makeK _ _ (by rfl) (n + 1) W.heap.size (by rfl) (by rfl) rfl (by omega) X (Since.next hb hX).size) ?_;intro v16;simp only [pX];refine jm (v16) ?_;refine lx_nil ?_;intro X2 hX2 hF;have hv16 := hF _ _ List.mem_cons_self;replace hB1 := hB1.bel hX2;replace hB2 := hB2.bel hX2;have hb := bel_next hb hX2;clear hF hX2;obtain ⟨g, rfl, hg, _, hBg⟩ := hv16;rw [List.length_replicate]
 go_upto_region 2 with fail;refine jp ?_;refine jn (.pointer (some ⟨g1, 0, none⟩)) ?_;refine jf (.slice A n c) hB1 0 load_ints ?_;refine jv (.int .i64 (n : Int)) (exec_lenv Tryd.underlying22 _ (by rfl) A n c (by rfl) _ rfl) ?_;refine jm (.int .i64 0) ?_;refine jzb hb fun X3 hX3 hb => ?_;replace hB1 := hB1.bel hX3;replace hB2 := hB2.bel hX3;replace hBg := hBg.bel hX3;clear hX3
 go_wp2
 go_loopw [20] (fun kv wr => ∃ (k : Nat) (O : List Int), k ≤ n ∧ kv = .int .i64 (k : Int) ∧ Hid (O.length = n + 1) ∧ Hid (∀ j, j ≤ k → wt O j = tk l j) ∧ Blk wr g 3 (O.map I64) ∧ Blk wr g1 24 [.slice A n c] ∧ Blk wr g2 55 [.int .i64 (f : Int), .int .i64 (u : Int)] ∧ Below W.heap.size W wr) (fun kv _ => n - (intOf kv).toNat)
 case atStart => exact ⟨0, List.replicate (n + 1) 0, by omega, rfl, List.length_replicate, (fun j hj => by rw [show j = 0 by omega]; rfl), hBg, hB1, hB2, hb⟩
 case round =>
  clear hBg hB1 hB2 hb;obtain ⟨k, O, hk, rfl, HO, HW, hBg, hB1, hB2, hb⟩ := hrel
  rcases Nat.lt_or_ge k n with hlt | hlt
  ·obtain ⟨b, off, rfl, hbb, hcx⟩ := wtIn (HRX.out _ hb) HLN.out hlt
   obtain ⟨x, x9⟩ : ∃ x, x = wt l k := ⟨_, rfl⟩;have HX := Lib.hid x9;clear x9;rw [← HX.out] at hcx;obtain ⟨s, s9⟩ : ∃ s, s = tk l k := ⟨_, rfl⟩
   have hx0 : 0 ≤ x := by rw [HX.out]; exact HK.out.pos k
   have hsx : 0 ≤ s ∧ s + x ≤ 999999999999999 := by
    have h1 : tk l 0 ≤ tk l k := tk_mono HK.out.pos (by omega);have h2 := tk_le HK.out (i := k + 1) (by rw [HLN.out]; omega);have h3 := HK.out.le
    unfold far at h3
    rw [tk_succ, ← s9, ← HX.out] at h2;have h4 : tk l 0 = 0 := rfl;rw [h4, ← s9] at h1;exact ⟨h1, by omega⟩
   have HS := Lib.hid s9;clear s9;go_upto_region 3 with fail;refine jp ?_;refine jv (.bool true) (exec_lss _ _ _ _ (by rfl) .i64 (k : Int) (n : Int) (by rfl) (by rfl) true (decide_eq_true (by omega))) ?_;refine jzb hb fun X1 hX1 hb => ?_;replace hB1 := hB1.bel hX1;replace hB2 := hB2.bel hX1;replace hBg := hBg.bel hX1;have hcx := hcx.below hX1 hbb;replace hbb := Nat.lt_of_lt_of_le hbb (hX1).size;clear hX1;go_upto_region 4 with fail;refine jp ?_;refine jm (.int .i64 (k : Int)) ?_;refine jv (.pointer (some ⟨b, off + k * 1, none⟩)) (exec_ixv Tryd.underlying22 info_i1 _ _ (by rfl) b (off) n c k (by omega) (by rfl) (by rfl) rfl) ?_;refine jg (.int .i64 x) (fun X hX hF => exec_ld 3 _ (by rfl) b (off + k * 1) (by rfl) _ X ((hcx.below hX hbb) 0 _ rfl) (fun X u h => load_int b (off + k * 1) X u h)) ?_;refine jm (.int .i64 (k : Int)) ?_;refine jm (.int .i64 x) ?_;refine jzb hb fun X2 hX2 hb => ?_;replace hB1 := hB1.bel hX2;replace hB2 := hB2.bel hX2;replace hBg := hBg.bel hX2;have hcx := hcx.below hX2 hbb;replace hbb := Nat.lt_of_lt_of_le hbb (hX2).size;clear hX2;go_upto_region 5 with fail;refine jq 10 ?_;refine jm (.slice (some ⟨g, 0, none⟩) (n + 1) (n + 1)) ?_;refine jm (.int .i64 (k : Int)) ?_;refine jv (.int .i64 ((k + 1 : Nat) : Int)) (exec_add _ _ _ _ (by rfl) (k : Int) 1 ((k + 1 : Nat) : Int) (by rfl) (by rfl) (by omega) (by omega) (by omega)) ?_;refine jm (.slice (some ⟨g, 0, none⟩) (n + 1) (n + 1)) ?_;refine jm (.int .i64 (k : Int)) ?_;refine jv (.pointer (some ⟨g, k, none⟩)) (exec_ix0 Tryd.underlying22 info_i1 _ _ (by rfl) g (n + 1) (n + 1) k (by omega) (by rfl) (by rfl) (by rfl)) ?_
   refine jg (.int .i64 s) (fun X hX hF => exec_ld 3 _ (by rfl) g (k) (by rfl) _ X (by have h9 := blk_wt (hBg.bel hX) (k := k) (by rw [HO.out]; omega); rw [HW.out k (Nat.le_refl _), ← HS.out] at h9; exact h9) (fun X u h => load_int g (k) X u h)) ?_;refine jm (.int .i64 x) ?_;refine jv (.int .i64 (s + x)) (exec_add _ _ _ _ (by rfl) s x (s + x) (by rfl) (by rfl) (by omega) (by omega) (by omega)) ?_;refine jv (.pointer (some ⟨g, (k + 1), none⟩)) (exec_ix0 Tryd.underlying22 info_i1 _ _ (by rfl) g (n + 1) (n + 1) (k + 1) (by omega) (by rfl) (by rfl) (by rfl)) ?_;refine jzb hb fun X3 hX3 hb => ?_;replace hB1 := hB1.bel hX3;replace hB2 := hB2.bel hX3;replace hBg := hBg.bel hX3;clear hX3;have hgg : g1 ≠ g ∧ g2 ≠ g := ⟨by omega, by omega⟩;refine op_store1 rfl g (k + 1) 3 _ hBg (.int .i64 (s + x)) (by rw [List.length_map, HO.out]; omega) (fun X u h1 h2 => exec_sti _ _ (by rfl) _ _ (by rfl) (by rfl) u X h1 h2) ?_;intro w3 hR5 hO5 hB5;have hb := hB5 _ _ hb (by omega);have hB1 := hO5 _ _ _ (by omega) hB1;have hB2 := hO5 _ _ _ (by omega) hB2;rw [← List.map_set (f := I64)] at hR5;have hBg := hR5;clear hO5 hB5 hR5
   have HO2 : Hid ((O.set (k + 1) (s + x)).length = n + 1) := by
    show _ = _
    rw [List.length_set]; exact HO.out
   have HW2 : Hid (∀ j, j ≤ k + 1 → wt (O.set (k + 1) (s + x)) j = tk l j) := fun j hj => by
    rw [wt_set (by rw [HO.out]; omega)]
    by_cases h9 : j = k + 1
    ·rw [if_pos h9, h9, tk_succ, ← HS.out, ← HX.out]
    ·rw [if_neg h9]
     exact HW.out j (by omega)
   go_upto_region 6 with fail;refine jp ?_;refine jv (.int .i64 ((k + 1 : Nat) : Int)) (exec_add _ _ _ _ (by rfl) (k : Int) 1 ((k + 1 : Nat) : Int) (by rfl) (by rfl) (by omega) (by omega) (by omega)) ?_;refine jm (.int .i64 ((k + 1 : Nat) : Int)) ?_;refine jzb hb fun X4 hX4 hb => ?_;replace hB1 := hB1.bel hX4;replace hB2 := hB2.bel hX4;replace hBg := hBg.bel hX4;clear hX4
   go_wp2
   go_roundw
   case rel => exact ⟨k + 1, _, by omega, rfl, HO2, HW2, hBg, hB1, hB2, hb⟩
   case measure => simp [intOf]; omega
  ·obtain rfl : k = n := by omega
   go_upto_region 3 with fail;refine jp ?_;refine jv (.bool false) (exec_lss _ _ _ _ (by rfl) .i64 (k : Int) (k : Int) (by rfl) (by rfl) false (decide_eq_false (by omega))) ?_;refine jzb hb fun X1 hX1 hb => ?_;replace hB1 := hB1.bel hX1;replace hB2 := hB2.bel hX1;replace hBg := hBg.bel hX1;clear hX1;obtain ⟨s0, hsa, hsb⟩ : ∃ s, s ≤ f + 1 - k ∧ f + 1 - k ≤ s := ⟨_, Nat.le_refl _, Nat.le_refl _⟩
   have HS0 : Hid (aS l f = s0) := by
    show _ = _
    unfold aS
    rw [HLN.out]; omega
   go_upto_region 7 with fail;refine jp ?_;refine jn (.pointer (some ⟨g2, 0, none⟩)) ?_;refine jf (.int .i64 (f : Int)) hB2 0 load_int ?_;refine jm (.int .i64 (k : Int)) ?_;refine jv (.int .i64 ((f : Int) - (k : Int))) (exec_sub _ _ _ _ (by rfl) (f : Int) (k : Int) ((f : Int) - (k : Int)) (by rfl) (by rfl) (by omega) (by omega) (by omega)) ?_;refine jv (.int .i64 ((f : Int) - (k : Int) + 1)) (exec_add _ _ _ _ (by rfl) ((f : Int) - (k : Int)) 1 ((f : Int) - (k : Int) + 1) (by rfl) (by rfl) (by omega) (by omega) (by omega)) ?_;refine jv (.int .i64 (s0 : Int)) (exec_max _ _ (by rfl) .i64 0 ((f : Int) - (k : Int) + 1) (s0 : Int) (by rfl) (by rfl) (by omega)) ?_;refine jm (.int .i64 (s0 : Int)) ?_;refine jzb hb fun X2 hX2 hb => ?_;replace hB1 := hB1.bel hX2;replace hB2 := hB2.bel hX2;replace hBg := hBg.bel hX2;clear hX2
   have HJS : Hid (∀ X, Since W X → J W.heap.size 0 X) := fun X h => hJ0 _ X (Nat.le_refl _) h
   obtain ⟨m0, hm0⟩ : ∃ m0, m0 = X2.heap.size := ⟨_, rfl⟩
   have hmW : W.heap.size ≤ m0 := by rw [hm0]; exact hb.size
   have hms : m0 ≤ X2.heap.size := by omega
   have hJS : J m0 0 X2 := hJ0 m0 X2 hmW hb
   have hgm : g < m0 := by rw [hm0]; exact hBg.lt
   clear hm0
   go_wp2
   go_loopw [8] (fun tv w2 => ∃ t : Nat, s0 ≤ t ∧ (s0 ≤ u → t ≤ u) ∧ tv = .int .i64 (t : Int) ∧ m0 ≤ w2.heap.size ∧ J m0 (if f < u then t - s0 else 0) w2 ∧ Blk w2 g 3 (O.map I64) ∧ Blk w2 g2 55 [.int .i64 (f : Int), .int .i64 (u : Int)]) (fun tv _ => u - (intOf tv).toNat)
   case atStart => exact ⟨s0, Nat.le_refl _, fun h => h, rfl, hms, (by
    rw [Nat.sub_self, ite_self]
    exact hJS), hBg, hB2⟩
   case round =>
    clear hBg hB1 hB2 hb hJS hms;obtain ⟨t, ht, htu, rfl, hms, hJt, hBg, hB2⟩ := hrel
    rcases Nat.lt_or_ge t u with hltt | hltt
    ·have hb : Below wr.heap.size wr wr := Below.refl _ _
     obtain ⟨lo, hlo⟩ : ∃ lo, lo = min k (f - t) := ⟨_, rfl⟩;obtain ⟨hi, hhi⟩ : ∃ hi, hi = min k (u - t) := ⟨_, rfl⟩;go_upto_region 8 with fail;refine jp ?_;refine jm (.int .i64 (t : Int)) ?_;refine jn (.pointer (some ⟨g2, 1, none⟩)) ?_;refine jf (.int .i64 (u : Int)) hB2 1 load_int ?_;refine jv (.bool true) (exec_lss _ _ _ _ (by rfl) .i64 (t : Int) (u : Int) (by rfl) (by rfl) true (decide_eq_true (by omega))) ?_;refine jzb hb fun X1 hX1 hb => ?_;replace hB2 := hB2.bel hX1;replace hBg := hBg.bel hX1;clear hX1;go_upto_region 10 with fail;refine jd ?_;refine jm (.int .i64 (k : Int)) ?_;refine jn (.pointer (some ⟨g2, 0, none⟩)) ?_;refine jf (.int .i64 (f : Int)) hB2 0 load_int ?_;refine jm (.int .i64 (t : Int)) ?_;refine jv (.int .i64 ((f : Int) - (t : Int))) (exec_sub _ _ _ _ (by rfl) (f : Int) (t : Int) ((f : Int) - (t : Int)) (by rfl) (by rfl) (by omega) (by omega) (by omega)) ?_;refine jv (.int .i64 ((f - t : Nat) : Int)) (exec_max _ _ (by rfl) .i64 0 ((f : Int) - (t : Int)) ((f - t : Nat) : Int) (by rfl) (by rfl) (by omega)) ?_;refine jv (.int .i64 (lo : Int)) (exec_min _ _ (by rfl) .i64 (k : Int) ((f - t : Nat) : Int) (lo : Int) (by rfl) (by rfl) (by omega)) ?_;refine jm (.int .i64 (k : Int)) ?_;refine jn (.pointer (some ⟨g2, 1, none⟩)) ?_;refine jf (.int .i64 (u : Int)) hB2 1 load_int ?_;refine jm (.int .i64 (t : Int)) ?_;refine jv (.int .i64 ((u - t : Nat) : Int)) (exec_sub _ _ _ _ (by rfl) (u : Int) (t : Int) ((u - t : Nat) : Int) (by rfl) (by rfl) (by omega) (by omega) (by omega)) ?_
     refine jv (.int .i64 (hi : Int)) (exec_min _ _ (by rfl) .i64 (k : Int) ((u - t : Nat) : Int) (hi : Int) (by rfl) (by rfl) (by omega)) ?_;refine jm (.int .i64 (lo : Int)) ?_;refine jm (.int .i64 (hi : Int)) ?_;refine jzb hb fun X2 hX2 hb => ?_;replace hB2 := hB2.bel hX2;replace hBg := hBg.bel hX2;clear hX2
     rcases Nat.lt_or_ge lo hi with hlh | hlh
     ·have hfu2 : f < u := by omega
      obtain ⟨a, a9⟩ : ∃ a, a = tk l lo := ⟨_, rfl⟩;obtain ⟨z, z9⟩ : ∃ z, z = tk l hi := ⟨_, rfl⟩;have HA := Lib.hid a9;have HZ := Lib.hid z9
      have hza : z - a = aw l f u (aS l f + (t - s0)) := by
       rw [HS0.out, show s0 + (t - s0) = t by omega]
       unfold aw
       rw [HLN.out, ← hlo, ← hhi, ← a9, ← z9]
      have hbd := aw_bd HK.out hfu (aS l f + (t - s0));rw [← hza] at hbd;have HZA := Lib.hid hza
      have ha0 : 0 ≤ a ∧ a ≤ 999999999999999 := by
       have h1 : tk l 0 ≤ tk l lo := tk_mono HK.out.pos (by omega);have h2 := tk_le HK.out (i := lo) (by rw [HLN.out]; omega);have h3 := HK.out.le
       unfold far at h3
       have h4 : tk l 0 = 0 := rfl;rw [a9]
       omega
      clear a9 z9 hza;obtain ⟨d, hd⟩ : ∃ d, d = z - a := ⟨_, rfl⟩;have HYY := hY m0 (t - s0) wr hmW hms (by unfold aN; rw [if_pos hfu2, HS0.out]; omega) (by rw [if_pos hfu2] at hJt; exact hJt);go_upto_region 11 with fail;refine (wpIn_wide (n := 0)).1 ?_;refine lw_tails 3 [] (by kernel_rfl) (by kernel_rfl) (by kernel_rfl) (by rintro ⟨_, _, ⟨_, h9⟩, _⟩; cases h9) (lasts_nil) ?_;simp only [its, List.length_cons, List.length_nil, Nat.zero_add, Nat.reduceAdd, Nat.reduceSub, List.take_succ_cons, List.take_zero, List.drop_succ_cons, List.drop_zero];refine jm (.int .i64 (hi : Int)) ?_;refine jm (.int .i64 (lo : Int)) ?_;refine jv (.bool true) (exec_gtr _ _ _ _ (by rfl) .i64 (hi : Int) (lo : Int) (by rfl) (by rfl) true (decide_eq_true (by omega))) ?_;refine jm (.bool true) ?_;refine jm (.func (.yield y9) #[] #[]) ?_;refine jm (.int .i64 (t : Int)) ?_;refine jm (.slice (some ⟨g, 0, none⟩) (k + 1) (k + 1)) ?_;refine jm (.int .i64 (hi : Int)) ?_;refine jv (.pointer (some ⟨g, hi, none⟩)) (exec_ix0 Tryd.underlying22 info_i1 _ _ (by rfl) g (k + 1) (k + 1) hi (by omega) (by rfl) (by rfl) (by rfl)) ?_;refine jg (.int .i64 z) (fun X hX hF => exec_ld 3 _ (by rfl) g (hi) (by rfl) _ X (by have h9 := blk_wt (hBg.bel hX) (k := hi) (by rw [HO.out]; omega); rw [HW.out hi (by omega), ← HZ.out] at h9; exact h9) (fun X u h => load_int g (hi) X u h)) ?_;refine jm (.slice (some ⟨g, 0, none⟩) (k + 1) (k + 1)) ?_;refine jm (.int .i64 (lo : Int)) ?_;refine jv (.pointer (some ⟨g, lo, none⟩)) (exec_ix0 Tryd.underlying22 info_i1 _ _ (by rfl) g (k + 1) (k + 1) lo (by omega) (by rfl) (by rfl) (by rfl)) ?_
      refine jg (.int .i64 a) (fun X hX hF => exec_ld 3 _ (by rfl) g (lo) (by rfl) _ X (by have h9 := blk_wt (hBg.bel hX) (k := lo) (by rw [HO.out]; omega); rw [HW.out lo (by omega), ← HA.out] at h9; exact h9) (fun X u h => load_int g (lo) X u h)) ?_;refine jv (.int .i64 d) (exec_sub _ _ _ _ (by rfl) z a d (by rfl) (by rfl) (by omega) (by omega) (by omega)) ?_;refine lx_nil ?_;intro X9 hX9 _;have hms9 := Nat.le_trans hms (Since.next hb hX9).size;have HYX := hY m0 (t - s0) X9 hmW hms9 (by unfold aN; rw [if_pos hfu2, HS0.out]; omega) (by rw [if_pos hfu2] at hJt; exact hJ _ _ _ _ hJt (Since.next hb hX9));rw [HS0.out, show s0 + (t - s0) = t by omega] at HYX;rw [HS0.out, show s0 + (t - s0) = t by omega] at HZA;rw [← HZA.out, ← hd] at HYX;refine op_yield (S := fun Y => J m0 (t - s0 + 1) Y ∧ But m0 T X9 Y) (by rfl) (.tmp 65) [.tmp 66, .tmp 75] _ rfl y9 rfl [.int .i64 (t : Int), .int .i64 d] rfl HYX fun Y hJB => ?_;obtain ⟨hJ2, hB9⟩ := hJB;refine list_wide (by rintro ⟨_, _, ⟨_, h9⟩, _⟩; cases h9) _ _ _ ?_;have hBg2 := hB9.blk (hBg.bel hX9) hgm (fun h9 => by have := hTW _ h9; omega);have hB22 := hB9.blk (hB2.bel hX9) (by omega) hT2;have hmsY := Nat.le_trans hms9 hB9.size;clear hb hBg hB2 hB9 HYX HYY hJt hms9 hms hX9;have hb : Below Y.heap.size Y Y := Below.refl _ _;go_upto_region 9 with fail
      have HJ2 : Hid (∀ X, Since Y X → J m0 (if f < u then t + 1 - s0 else 0) X) := fun X h => by
       rw [if_pos hfu2, show t + 1 - s0 = t - s0 + 1 by omega];exact hJ _ _ _ _ hJ2 h
      refine jp ?_;refine jm (.int .i64 (t : Int)) ?_;refine jv (.int .i64 ((t + 1 : Nat) : Int)) (exec_add _ _ _ _ (by rfl) (t : Int) 1 ((t + 1 : Nat) : Int) (by rfl) (by rfl) (by omega) (by omega) (by omega)) ?_;refine jm (.int .i64 ((t + 1 : Nat) : Int)) ?_;refine jzb hb fun X3 hX3 hb => ?_;replace hB22 := hB22.bel hX3;replace hBg2 := hBg2.bel hX3;clear hX3;have hms2 := Nat.le_trans hmsY hb.size;clear hfu2
      go_wp2
      go_roundw
      case rel => exact ⟨t + 1, by omega, fun _ => by omega, rfl, hms2, HJ2.out _ hb, hBg2, hB22⟩
      case measure => simp [intOf]; omega
     ·have hfu2 : f = u := by omega
      have HJ2 : Hid (∀ X, Since wr X → J m0 (if f < u then t + 1 - s0 else 0) X) := fun X h => by
       rw [if_neg (by omega)] at hJt ⊢;exact hJ _ _ _ _ hJt h
      go_upto_region 11 with fail;refine jd ?_;refine jm (.int .i64 (hi : Int)) ?_;refine jm (.int .i64 (lo : Int)) ?_;refine jv (.bool false) (exec_gtr _ _ _ _ (by rfl) .i64 (hi : Int) (lo : Int) (by rfl) (by rfl) false (decide_eq_false (by omega))) ?_;refine jm (.bool false) ?_;refine js ?_;refine js ?_;refine js ?_;refine js ?_;refine js ?_;refine js ?_;refine js ?_;refine js ?_;refine js ?_;refine js ?_;refine js ?_;refine js ?_;refine js ?_;refine jm (.bool false) ?_;refine jzb hb fun X3 hX3 hb => ?_;replace hB2 := hB2.bel hX3;replace hBg := hBg.bel hX3;clear hX3;go_upto_region 9 with fail;refine jp ?_;refine jm (.int .i64 (t : Int)) ?_;refine jv (.int .i64 ((t + 1 : Nat) : Int)) (exec_add _ _ _ _ (by rfl) (t : Int) 1 ((t + 1 : Nat) : Int) (by rfl) (by rfl) (by omega) (by omega) (by omega)) ?_;refine jm (.int .i64 ((t + 1 : Nat) : Int)) ?_;refine jzb hb fun X4 hX4 hb => ?_;replace hB2 := hB2.bel hX4;replace hBg := hBg.bel hX4;clear hX4;have hms2 := Nat.le_trans hms hb.size;clear hfu2
      go_wp2
      go_roundw
      case rel => exact ⟨t + 1, by omega, fun _ => by omega, rfl, hms2, HJ2.out _ hb, hBg, hB2⟩
      case measure => simp [intOf]; omega
    ·have hb : Below wr.heap.size wr wr := Below.refl _ _
     have HJF : Hid (∀ X, Since wr X → J m0 (aN l f u) X) := fun X h => by
      have h9 : (if f < u then t - s0 else 0) = aN l f u := by
       unfold aN
       by_cases h8 : f < u
       ·rw [if_pos h8, if_pos h8, HS0.out]
        have := htu (by omega)
        omega
       ·rw [if_neg h8, if_neg h8]
      rw [h9] at hJt;exact hJ _ _ _ _ hJt h
     go_upto_region 8 with fail;refine jp ?_;refine jm (.int .i64 (t : Int)) ?_;refine jn (.pointer (some ⟨g2, 1, none⟩)) ?_;refine jf (.int .i64 (u : Int)) hB2 1 load_int ?_;refine jv (.bool false) (exec_lss _ _ _ _ (by rfl) .i64 (t : Int) (u : Int) (by rfl) (by rfl) false (decide_eq_false (by omega))) ?_;refine jzb hb fun X1 hX1 hb => ?_;replace hB2 := hB2.bel hX1;replace hBg := hBg.bel hX1;clear hX1
     go_wp2
     go_end0
     exact ⟨⟨_, rfl⟩, m0, hmW, HJF.out _ hb⟩
end Go.Proofs.YtcpedbpldgndmaaDoor
